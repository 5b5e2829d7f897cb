/- A part of the proof: steps and lemmas for the walks through the given program. -/
import Derived.Test.YtkaangdfpjkjpaaVc6
namespace Go.Vc
set_option linter.unusedVariables false
set_option linter.unusedSimpArgs false

/-- a slice of one's own: at the head of a row in a block from B on; what its elements reach lies in F, not in that row -/
def OwV {α : Type} (t : Ty α) (e : TypeId) (w : World) (B : Nat) (F : Nat → Prop) (v : Value) (xs : List α) : Prop :=
  ∃ cells, w.ownsRow B e t.sz v xs.length cells ∧ ∀ i x, xs[i]? = some x → t.rep w (fun b => F b ∧ v.ownBlock ≠ some b) ((cells.drop (i * t.sz)).take t.sz) x

section
variable {α : Type} {t : Ty α} {e : TypeId} {w w' : World} {B : Nat} {F F' : Nat → Prop} {K : Nat → Prop} {v : Value} {xs : List α}

theorem OwV.nil (t : Ty α) (e : TypeId) (w : World) (B : Nat) (F : Nat → Prop) : OwV t e w B F (.slice none 0 0) [] := ⟨[], World.ownsRow_nil w B e t.sz, fun i x h => by simp at h⟩
theorem OwV.shape (h : OwV t e w B F v xs) : ∃ a c, v = .slice a xs.length c := by
  obtain ⟨cells, h1, _⟩ := h
  rcases h1.2 with ⟨rfl, h0⟩ | ⟨g, cap, cur, rfl, _⟩
  · exact ⟨none, 0, by rw [h0]⟩
  · exact ⟨_, _, rfl⟩
theorem OwV.max (h : OwV t e w B F v xs) : xs.length ≤ maxLen := by
  obtain ⟨cells, h1, _⟩ := h
  rcases h1.2 with ⟨rfl, h0⟩ | ⟨g, cap, cur, rfl, _, _, h3, h4, _⟩
  · rw [h0]; exact Nat.zero_le _
  · omega
/-- the block of a slice of one's own -/
theorem OwV.own_lt (h : OwV t e w B F v xs) {b : Nat} (hb : v.ownBlock = some b) : B ≤ b ∧ b < w.heap.size := by
  obtain ⟨cells, h1, _⟩ := h
  exact h1.lt b hb
theorem OwV.view (h : OwV t e w B F v xs) : SlV t w (fun b => B ≤ b ∨ F b) v xs := by
  obtain ⟨cells, h1, h2⟩ := h
  obtain ⟨hl, h1'⟩ := h1
  rcases h1' with ⟨rfl, h0⟩ | ⟨g, cap, cur, rfl, hB, hg, h3, h4, h5, h6⟩
  · have : xs = [] := List.eq_nil_of_length_eq_zero h0
    subst this; exact SlV.nil _ _ _
  · refine ⟨some ⟨g, 0, none⟩, cap, rfl, h3, h4, fun h => (by cases h), fun i x hx => ?_⟩
    have hr := h2 i x hx
    refine ⟨_, _, rfl, .inl hB, fun j u hu => ?_, t.mono hr fun b _ hb => .inr hb.1⟩
    rw [add_add, add_lit, Nat.zero_add, cell_of_row w g _ cur e (0, 0) hg]
    have hjlt : j < t.sz := by
      have := (List.getElem?_eq_some_iff.1 hu).1
      simp at this; omega
    rw [List.getElem?_take, if_pos hjlt, List.getElem?_drop, ← h6, List.getElem?_take] at hu
    split at hu
    · simpa using hu
    · cases hu
theorem OwV.keep (h : OwV t e w B F v xs) (k : Keep K w w') (ho : ∀ b, v.ownBlock = some b → ¬ K b) (hk : ∀ b, b < w.heap.size → F b → v.ownBlock ≠ some b → ¬ K b) : OwV t e w' B F v xs := by
  obtain ⟨cells, h1, h2⟩ := h
  refine ⟨cells, ⟨h1.1, ?_⟩, fun i x hx => t.keep (h2 i x hx) k fun b hb hF => hk b hb hF.1 hF.2⟩
  rcases h1.2 with h0 | ⟨g, cap, cur, rfl, hB, hg, h3⟩
  · exact .inl h0
  · refine .inr ⟨g, cap, cur, rfl, hB, ?_, h3⟩
    rw [k.block g (Array.getElem?_eq_some_iff.1 hg).1 (ho g rfl)]; exact hg
theorem OwV.ext (h : OwV t e w B F v xs) (k : Ext w w') : OwV t e w' B F v xs := h.keep k (fun _ _ x => x) (fun _ _ _ _ x => x)
theorem OwV.mono (h : OwV t e w B F v xs) (hf : ∀ b, b < w.heap.size → F b → F' b) : OwV t e w B F' v xs := by
  obtain ⟨cells, h1, h2⟩ := h
  exact ⟨cells, h1, fun i x hx => t.mono (h2 i x hx) fun b hb h => ⟨hf b hb h.1, h.2⟩⟩
theorem OwV.base {B' : Nat} (h : OwV t e w B F v xs) (hB : B' ≤ B) : OwV t e w B' F v xs := by
  obtain ⟨cells, ⟨h0, h1⟩, h2⟩ := h
  refine ⟨cells, ⟨h0, ?_⟩, h2⟩
  rcases h1 with h | ⟨g, cap, cur, rfl, hb, h3⟩
  · exact .inl h
  · exact .inr ⟨g, cap, cur, rfl, Nat.le_trans hB hb, h3⟩
end

theorem flatMap_take_drop {α : Type} {sz : Nat} (css : List (List α)) (h : ∀ c ∈ css, c.length = sz) : ∀ i (c : List α), css[i]? = some c → ((css.flatten).drop (i * sz)).take sz = c := by
  induction css with
  | nil => intro i c hi; simp at hi
  | cons c0 css ih =>
    intro i c hi
    have h0 : c0.length = sz := h c0 (by simp)
    cases i with
    | zero =>
      simp at hi
      subst hi
      simp only [Nat.zero_mul, List.drop_zero, List.flatten_cons]
      rw [← h0]; exact List.take_left
    | succ i =>
      simp at hi
      have e1 : (i + 1) * sz = c0.length + i * sz := by rw [h0, Nat.succ_mul]; omega
      rw [List.flatten_cons, e1, List.drop_append, List.drop_of_length_le (by omega), List.nil_append]
      simp only [Nat.add_sub_cancel_left]
      exact ih (fun c hc => h c (by simp [hc])) i c hi
theorem length_flatten_sz {α : Type} {sz : Nat} (css : List (List α)) (h : ∀ c ∈ css, c.length = sz) : css.flatten.length = css.length * sz := by
  induction css with
  | nil => simp
  | cons c0 css ih =>
    rw [List.flatten_cons, List.length_append, ih (fun c hc => h c (by simp [hc])), h c0 (by simp), List.length_cons, Nat.succ_mul]; omega
theorem getElem_flatten_sz {α : Type} {sz : Nat} (hp : 0 < sz) (css : List (List α)) (h : ∀ c ∈ css, c.length = sz) (j : Nat) (u : α) (hu : css.flatten[j]? = some u) : ∃ c, css[j / sz]? = some c ∧ c[j % sz]? = some u := by
  have hlt := (List.getElem?_eq_some_iff.1 hu).1
  rw [length_flatten_sz css h] at hlt
  have hi : j / sz < css.length := (Nat.div_lt_iff_lt_mul hp).2 hlt
  refine ⟨css[j / sz], by simp [hi], ?_⟩
  have := flatMap_take_drop css h (j / sz) css[j / sz] (by simp [hi])
  rw [← this, List.getElem?_take, if_pos (Nat.mod_lt _ hp), List.getElem?_drop]
  rw [← hu]; congr 1
  rw [Nat.mul_comm]; exact Nat.div_add_mod j sz

/-- the cells of a slice that reads as a list -/
theorem SlV.cells {α : Type} {t : Ty α} {w : World} {F : Nat → Prop} {v : Value} {xs : List α} (h : SlV t w F v xs) : ∃ css : List (List Value), css.length = xs.length ∧ (∀ c ∈ css, c.length = t.sz) ∧ (∀ u ∈ css.flatten, u.oneCell' = true) ∧
    (∀ (i : Nat) (x : α), xs[i]? = some x → ∃ c : List Value, css[i]? = some c ∧ t.rep w F c x) ∧ ∃ (a : Option Addr) (c : Nat), v = .slice a xs.length c ∧ (a = none → c = 0) ∧ xs.length ≤ c ∧ ∀ q, a = some q → ∀ (j : Nat) (u : Value), css.flatten[j]? = some u → w.cell? (q.add j) = some u := by
  obtain ⟨a, c, hv, h1, h2, h3, h4⟩ := h
  have hex : ∀ i, ∃ cs : List Value, ∀ x, xs[i]? = some x → (∃ q, a = some q ∧ F q.block ∧ Pv w (q.add (i * t.sz)) cs) ∧ t.rep w F cs x := by
    intro i
    cases hx : xs[i]? with
    | none => exact ⟨[], fun x h => by cases h⟩
    | some x =>
      obtain ⟨q, cs, ha, hF, hp, hr⟩ := h4 i x hx
      exact ⟨cs, fun x' hx' => by cases hx'; exact ⟨⟨q, ha, hF, hp⟩, hr⟩⟩
  have hch := Classical.axiomOfChoice hex
  obtain ⟨f, hf⟩ := hch
  refine ⟨(List.range xs.length).map f, by simp, ?_, ?_, ?_, a, c, hv, h3, h1, ?_⟩
  · intro c hc
    obtain ⟨i, hi, rfl⟩ := List.mem_map.1 hc
    have hi' : i < xs.length := by simpa using hi
    exact t.len (hf i xs[i] (by simp [hi'])).2
  · intro u hu
    obtain ⟨c, hc, huc⟩ := List.mem_flatten.1 hu
    obtain ⟨i, hi, rfl⟩ := List.mem_map.1 hc
    have hi' : i < xs.length := by simpa using hi
    exact t.one (hf i xs[i] (by simp [hi'])).2 u huc
  · intro i x hx
    have hi : i < xs.length := (List.getElem?_eq_some_iff.1 hx).1
    exact ⟨f i, by simp [hi], (hf i x hx).2⟩
  · intro q hq j u hu
    have hall : ∀ c ∈ (List.range xs.length).map f, c.length = t.sz := by
      intro c hc
      obtain ⟨i, hi, rfl⟩ := List.mem_map.1 hc
      have hi' : i < xs.length := by simpa using hi
      exact t.len (hf i xs[i] (by simp [hi'])).2
    obtain ⟨c, hc, hcu⟩ := getElem_flatten_sz t.pos _ hall j u hu
    simp only [List.getElem?_map, Option.map_eq_some_iff] at hc
    obtain ⟨i, hi, rfl⟩ := hc
    have hi2 : j / t.sz < xs.length ∧ i = j / t.sz := by
      obtain ⟨h, h'⟩ := List.getElem?_eq_some_iff.1 hi
      exact ⟨by simpa using h, by rw [← h']; simp⟩
    have hix : i < xs.length := by omega
    obtain ⟨⟨q', hq', _, hp⟩, _⟩ := hf i xs[i] (by simp [hix])
    rw [hq] at hq'; cases hq'
    have := hp _ _ hcu
    rw [add_add, hi2.2] at this
    rwa [Nat.mul_comm, Nat.div_add_mod] at this

theorem run_append_OwV {α : Type} {P : Program} {t : Ty α} {T e bytes : Nat} (ty : TypeId) (hk : kElem P T e t.sz bytes = true) {w : World} {B : Nat} {F F' : Nat → Prop} {v u : Value} {xs ys : List α} (hv : OwV t e w B F v xs) (hu : SlV t w F' u ys)
    (hF : ∀ cs x, t.rep w F' cs x → t.rep w (fun b => F b ∧ v.ownBlock ≠ some b) cs x) (hn : (xs.length + ys.length) * bytes ≤ 140737488355328) (hm : xs.length + ys.length ≤ maxLen) (hB : B ≤ w.heap.size) :
    ∃ v' w', (Builtin.append_ #[T, T] ty #[v, u]).run P w = .ok v' w' ∧ OwV t e w' B F v' (xs ++ ys) ∧ Keep (fun b => v.ownBlock = some b) w w' ∧ (v' = .slice none 0 0 ↔ v = .slice none 0 0 ∧ ys.length = 0) ∧ (∀ b, v'.ownBlock = some b → v.ownBlock = some b ∨ w.heap.size ≤ b) := by
  obtain ⟨ht, i, z, hi, hz, hzs, his, hib⟩ := kElem_of hk
  obtain ⟨css, hcl, hall, hone, hrep, a, c, rfl, hnone, hlc, hcell⟩ := hu.cells
  obtain ⟨cells, hown, hreps⟩ := hv
  have hfl : css.flatten.length = ys.length * t.sz := by rw [length_flatten_sz css hall, hcl]
  cases a with
  | none =>
    have hc0 := hnone rfl
    subst hc0
    have hy : ys = [] := List.eq_nil_of_length_eq_zero (by omega)
    subst hy
    refine ⟨v, w, ?_, ⟨cells, by simpa using hown, by simpa using hreps⟩, Keep.refl _, by simp, fun b hb => .inl hb⟩
    exact run_append_owned_none (P := P) w B T ty e i t.sz ht hi v xs.length cells hown
  | some q =>
    obtain ⟨v', w', hr, h1, h2, h3⟩ := run_append_own (P := P) w B T ty e i z t.sz bytes ht hi hz his hib hzs t.pos v xs.length cells hown q ys.length c css.flatten hfl (hcell q rfl) hone hm hn hB
    have hkeep : Keep (fun b => v.ownBlock = some b) w w' := ⟨h2.os, h2.tape, h2.output, h2.size, fun k hk hk' => h2.block k hk (fun h => hk' h.symm)⟩
    have hblk : ∀ b, v'.ownBlock = some b → v.ownBlock = some b ∨ w.heap.size ≤ b := by
      intro b hb
      rcases Nat.lt_or_ge b w.heap.size with hlt | hge
      · left
        rcases hown.2 with ⟨rfl, h0⟩ | ⟨g, cap, cur, rfl, hbg, hg, hnc, hcm, hcs, htake⟩
        · exfalso
          by_cases hm0 : ys.length = 0
          · have := h3.2 ⟨rfl, hm0⟩
            rw [this] at hb; cases hb
          · have hx : cells = [] := List.eq_nil_of_length_eq_zero (by have := hown.1; rw [h0] at this; simpa using this)
            have hby : ys.length * bytes ≤ 140737488355328 := by rw [h0, Nat.zero_add] at hn; exact hn
            have hgr := run_append_nil (P := P) w T ty e i z ht hi hz q ys.length c css.flatten (by rw [his]; exact hfl) (hcell q rfl) (by omega) (by simp only [maxLen] at hm; omega) (by rw [hib]; omega)
            rw [hr] at hgr
            cases hgr
            simp [Value.ownBlock] at hb
            omega
        · by_cases hroom : xs.length + ys.length ≤ cap
          · have hgr := run_append_room (P := P) w T ty e i ht hi g xs.length cap cur hg q ys.length c css.flatten (by rw [his]; exact hfl) (hcell q rfl) hone hroom (by rw [his, hfl, hcs, ← Nat.add_mul]; exact Nat.mul_le_mul_right _ hroom)
            rw [hr] at hgr
            cases hgr
            exact hb
          · exfalso
            have holds : ∀ j u, cells[j]? = some u → w.cell? ((⟨g, 0, none⟩ : Addr).add j) = some u := hown.cells (g := g) rfl
            have hgr := run_append_grow (P := P) w T ty e i z ht hi hz ⟨g, 0, none⟩ xs.length cap cells (by rw [his]; exact hown.1) holds q ys.length c css.flatten (by rw [his]; exact hfl) (hcell q rfl) (by omega) (by simp only [maxLen] at hm; omega) (by rw [hib]; exact growslice_fits (by omega) hn)
            rw [hr] at hgr
            cases hgr
            simp [Value.ownBlock] at hb
            omega
      · exact .inr hge
    refine ⟨v', w', hr, ⟨cells ++ css.flatten, by simpa using h1, fun k x hx => ?_⟩, hkeep, h3, hblk⟩
    have hcl1 : cells.length = xs.length * t.sz := hown.1
    have hsafe : ∀ b, b < w.heap.size → v.ownBlock ≠ some b → v'.ownBlock ≠ some b := by
      intro b hb hne he
      rcases hblk b he with h | h
      · exact hne h
      · omega
    by_cases hkx : k < xs.length
    · have hxk : xs[k]? = some x := by rw [← hx, List.getElem?_append_left hkx]
      have hr0 := hreps k x hxk
      have hseg : ((cells ++ css.flatten).drop (k * t.sz)).take t.sz = (cells.drop (k * t.sz)).take t.sz := by
        have hle : (k + 1) * t.sz ≤ cells.length := by rw [hcl1]; exact Nat.mul_le_mul_right _ hkx
        have hle' : k * t.sz + t.sz ≤ cells.length := by rw [Nat.succ_mul] at hle; exact hle
        rw [List.drop_append_of_le_length (by omega), List.take_append_of_le_length (by rw [List.length_drop]; omega)]
      rw [hseg]
      refine t.mono (F := fun b => F b ∧ v.ownBlock ≠ some b ∧ b < w.heap.size) (t.keep (K := fun b => v.ownBlock = some b) (t.mono hr0 fun b hb hF => ⟨hF.1, hF.2, hb⟩) hkeep fun b hb hF => hF.2.1) fun b hb hF => ⟨hF.1, hsafe b hF.2.2 hF.2.1⟩
    · have hxk : ys[k - xs.length]? = some x := by rw [← hx, List.getElem?_append_right (by omega)]
      obtain ⟨cc, hcc, hrc⟩ := hrep _ _ hxk
      have hseg : ((cells ++ css.flatten).drop (k * t.sz)).take t.sz = cc := by
        have e1 : k * t.sz = cells.length + (k - xs.length) * t.sz := by
          rw [hcl1, ← Nat.add_mul]; congr 1; omega
        rw [e1, List.drop_append, List.drop_of_length_le (by omega), List.nil_append, Nat.add_sub_cancel_left]
        exact flatMap_take_drop css hall _ _ hcc
      rw [hseg]
      refine t.mono (F := fun b => F b ∧ v.ownBlock ≠ some b ∧ b < w.heap.size) (t.keep (K := fun b => v.ownBlock = some b) (t.mono (hF _ _ hrc) fun b hb hFb => ⟨hFb.1, hFb.2, hb⟩) hkeep fun b hb hF => hF.2.1) fun b hb hF => ⟨hF.1, hsafe b hF.2.2 hF.2.1⟩

section
variable {α : Type} {P : Program} {d : Option Tmp} {ty : TypeId} {p : String} {af : Array Edge} {g : Option (Nat × Bool)} {e : Nat → Value} {w : World} {x y c : Operand} {K : Value → World → Prop}

/-- 'append(s, u...)', s one's own -/
theorem to_append {t : Ty α} {T et bytes B : Nat} {F F' : Nat → Prop} {v u : Value} {xs ys : List α} (hk : kElem P T et t.sz bytes = true) (hx : ev e x = v) (hv : OwV t et w B F v xs) (hy : ev e y = u) (hu : SlV t w F' u ys)
    (hF : ∀ cs x, t.rep w F' cs x → t.rep w (fun b => F b ∧ v.ownBlock ≠ some b) cs x) (hn : (xs.length + ys.length) * bytes ≤ 140737488355328) (hm : xs.length + ys.length ≤ maxLen) (hB : B ≤ w.heap.size)
    (k : ∀ a n cc w', OwV t et w' B F (.slice a n cc) (xs ++ ys) → n = (xs ++ ys).length → Keep (fun b => v.ownBlock = some b) w w' → (∀ b, (Value.slice a n cc).ownBlock = some b → v.ownBlock = some b ∨ w.heap.size ≤ b) → (a = none ↔ v = .slice none 0 0 ∧ ys.length = 0) → K (.slice a n cc) w') :
    OpTo P ⟨d, .call { callee := .builtin .append, args := #[x, y], argTypes := #[T, T] }, ty, p, af, g⟩ e w K := by
  obtain ⟨v', w', hr, h1, h2, h3, h4⟩ := run_append_OwV (P := P) ty hk hv hu hF hn hm hB
  obtain ⟨a, cc, rfl⟩ := h1.shape
  have hr' : (execOp (ev e) ⟨d, .call { callee := .builtin .append, args := #[x, y], argTypes := #[T, T] }, ty, p, af, g⟩).run P w = .ok (.value (.slice a (xs ++ ys).length cc)) w' := by
    simp only [execOp, resolve, invoke, builtin, Sem.run_bind, Sem.run_pure, Result.andThen_ok, List.map_toArray, List.map_cons, List.map_nil, hx, hy, hr]
  unfold OpTo
  rw [hr']
  refine k _ _ _ _ h1 rfl h2 h4 ⟨fun ha => ?_, fun hh => ?_⟩
  · subst ha
    obtain ⟨cells, ho, _⟩ := h1
    rcases ho.2 with ⟨he, _⟩ | ⟨g', cap, cur, he, _⟩
    · exact h3.1 he
    · cases he
  · have := h3.2 hh
    simp only [Value.slice.injEq] at this
    exact this.1

/-- '[]T{x}': a new row of one element -/
theorem to_slice1 {t : Ty α} {T et bytes : Nat} {v : Value} {F : Nat → Prop} {xx : α} (hk : kElem P T et t.sz bytes = true) (hsz : t.sz ≤ 16777216) (hx : ev e x = v) (hr : t.rep w F v.cells.toList xx)
    (k : ∀ b w', b = w.heap.size → OwV t et w' b (fun b => F b ∧ b < w.heap.size) (.slice (some ⟨b, 0, none⟩) 1 1) [xx] → Ext w w' → w'.heap.size = b + 1 → K (.slice (some ⟨b, 0, none⟩) 1 1) w') :
    OpTo P ⟨d, .buildSlice T 1 #[(0, x)], ty, p, af, g⟩ e w K := by
  obtain ⟨ht, i, z, hi, hz, hzs, his, hib⟩ := kElem_of hk
  have hlen := t.len hr
  have hpos := t.pos
  have hcs : v.cells.size = t.sz := by simpa using hlen
  have hfill : Instr.fill (fun i => some (i * t.sz, t.sz)) ((Array.range (1 * t.sz)).map (z.cells[· % z.cells.size]!)) [(0, v)] = some v.cells := by
    have hp : ¬ (v.cells.size ≠ t.sz) := by simp [hcs]
    have hgen : ∀ (n : Nat) (cs : Array Value) (arr : Array Value), n = cs.size → arr.size = cs.size → cs.zipIdx.foldl (fun a (c, j) => a.setIfInBounds (0 + j) c) arr = cs := by
      intro n cs arr hn ha
      apply Array.ext
      · have : ∀ (l : List (Value × Nat)) (a : Array Value), (l.foldl (fun a x => a.setIfInBounds (0 + x.2) x.1) a).size = a.size := by
          intro l
          induction l with
          | nil => intro a; rfl
          | cons y l ih => intro a; rw [List.foldl_cons, ih]; simp
        rw [← Array.foldl_toList]
        exact (this _ _).trans ha
      · intro j h1 h2
        have key : ∀ (l : List Value) (o : Nat) (a : Array Value), o + l.length ≤ a.size → ∀ m, ((l.zipIdx o).foldl (fun a x => a.setIfInBounds (0 + x.2) x.1) a)[m]? = if o ≤ m ∧ m < o + l.length then l[m - o]? else a[m]? := by
          intro l
          induction l with
          | nil => intro o a _ m; simp; omega
          | cons y l ih =>
            intro o a ho m
            simp only [List.zipIdx_cons, List.foldl_cons]
            rw [ih (o + 1) _ (by simp at ho ⊢; omega) m]
            simp only [List.length_cons] at ho ⊢
            by_cases h1 : o + 1 ≤ m ∧ m < o + 1 + l.length
            · rw [if_pos h1, if_pos (by omega), show m - o = (m - (o + 1)) + 1 by omega]; simp
            · rw [if_neg h1]
              by_cases h2 : m = o
              · subst h2
                have hma : m < a.size := by omega
                rw [if_pos (by omega)]; simp [hma]
              · rw [if_neg (by omega), Array.getElem?_setIfInBounds_ne (by omega)]
        have := key cs.toList 0 arr (by simp [ha]) j
        rw [← Array.foldl_toList] at h1
        have e2 : (cs.zipIdx.foldl (fun a (c, j) => a.setIfInBounds (0 + j) c) arr)[j]? = cs[j]? := by
          rw [← Array.foldl_toList]
          have e3 : cs.zipIdx.toList = cs.toList.zipIdx 0 := by simp
          rw [e3, this, if_pos (by simpa using h2)]
          simp
        have h3 := e2
        rw [Array.getElem?_eq_getElem (by rw [← Array.foldl_toList]; exact h1), Array.getElem?_eq_getElem h2] at h3
        exact Option.some.inj h3
    simp only [Instr.fill, Nat.zero_mul]
    have hcond : (v.cells.size ≠ t.sz || decide (0 + v.cells.size > ((Array.range (1 * t.sz)).map (z.cells[· % z.cells.size]!)).size)) = false := by simp [hcs]
    rw [if_neg (by simpa using hcond)]
    rw [hgen _ v.cells _ rfl (by simp [hcs])]
  have hr' : (execOp (ev e) ⟨d, .buildSlice T 1 #[(0, x)], ty, p, af, g⟩).run P w = .ok (.value (.slice (some ⟨w.heap.size, 0, none⟩) 1 1)) (w.alloc (.cells v.cells et)) := by
    have hs1 : ¬ (1 * i.size > 2 ^ 24) := by rw [his]; omega
    have hs2 : ¬ (1 * i.size = 0) := by rw [his]; omega
    rw [← his] at hfill
    simp only [execOp, Instr.buildSlice, hx, List.map_toArray, List.map_cons, List.map_nil]
    simp only [run_underlying ht, sizeOf, typeInfo, zeroValue, hi, hz, Sem.run_bind, Sem.run_pure, Result.andThen_ok, if_neg hs1, if_neg hs2]
    simp [hi, hz, run_underlying ht, sizeOf, typeInfo, zeroValue, his, newRow, newObj, Sem.run]
    rw [if_neg (by omega), if_neg (by omega)]
    rw [his, Nat.one_mul] at hfill
    rw [hfill]
    simp [Sem.run]
  unfold OpTo
  rw [hr']
  refine k _ _ rfl ⟨v.cells.toList, ⟨by simp [hcs], .inr ⟨w.heap.size, 1, v.cells, rfl, Nat.le_refl _, heap_alloc_new w _, Nat.le_refl _, by simp [maxLen], by simp [hcs], ?_⟩⟩, fun j y hy => ?_⟩ (Ext.alloc _ _) (by simp)
  · rw [List.take_of_length_le]; simp [hcs]
  · cases j with
    | succ j => simp at hy
    | zero =>
      simp at hy
      subst hy
      simp only [Nat.zero_mul, List.drop_zero]
      rw [List.take_of_length_le (by simp [hcs])]
      refine t.mono (t.keep (K := NoK) (t.mono hr fun b hb hF => (⟨hF, hb⟩ : F b ∧ b < w.heap.size)) (Ext.alloc _ _) fun _ _ _ x => x) fun b hb hF => ⟨hF, ?_⟩
      simp only [Value.ownBlock]
      intro h
      have := Option.some.inj h
      omega

/-- 's[lo:hi]' -/
theorem to_slice {t : Ty α} {T et : Nat} {F : Nat → Prop} {v : Value} {xs : List α} {lo hi : Option Operand} {l h : Nat} (hk : kSlice P T et = true) (hs : kSize P et t.sz = true) (hx : ev e x = v) (hv : SlV t w F v xs)
    (hl : match lo with | some o => ∃ k, ev e o = .int k (l : Nat) | none => l = 0) (hh : match hi with | some o => ∃ k, ev e o = .int k (h : Nat) | none => h = xs.length) (hlh : l ≤ h) (hhx : h ≤ xs.length)
    (k : ∀ a n c, SlV t w F (.slice a n c) ((xs.take h).drop l) → h - l = n → (∀ a0 n0 c0, v = .slice (some a0) n0 c0 → ∃ a1, a = some a1) → K (.slice a n c) w) :
    OpTo P ⟨d, .slice T x lo hi none, ty, p, af, g⟩ e w K := by
  obtain ⟨a, c, rfl, h1, h2, h3, h4⟩ := hv
  have hlo : ∀ (y : Nat), l ≤ y → (match lo.map (ev e) with | some v => Instr.sliceBound v y .sliceB | none => pure 0).run P w = .ok l w := by
    intro y hy
    cases lo with
    | none => simp at hl; subst hl; rfl
    | some o =>
      obtain ⟨kk, ho⟩ := hl
      simp [ho, Instr.sliceBound, asIntOf]
      have : ¬ (y : Int) < (l : Int) := by omega
      omega
  have hr : (execOp (ev e) ⟨d, .slice T x lo hi none, ty, p, af, g⟩).run P w = .ok (.value (.slice (if c = l then a else a.map (·.add (l * t.sz))) (h - l) (c - l))) w := by
    have hi' : (match hi.map (ev e) with | some v => Instr.sliceBound v c .sliceAcap | none => pure xs.length).run P w = .ok h w := by
      cases hi with
      | none => simp at hh; subst hh; rfl
      | some o =>
        obtain ⟨kk, ho⟩ := hh
        simp [ho, Instr.sliceBound, asIntOf]
        omega
    have hb : (Instr.sliceBounds true xs.length c (lo.map (ev e)) (hi.map (ev e)) none).run P w = .ok (l, h, c) w := by
      unfold Instr.sliceBounds
      cases hi with
      | none =>
        simp only [Option.map_none] at hi' ⊢
        have := hlo h hlh
        cases lo with
        | none => simp at this hi' ⊢; exact ⟨this, hi'⟩
        | some o => simp at this hi' ⊢; rw [hi']; simp [this]
      | some oh =>
        simp only [Option.map_some] at hi' ⊢
        have := hlo h hlh
        cases lo with
        | none => simp at this hi' ⊢; rw [hi']; simp [this]
        | some o => simp at this hi' ⊢; rw [hi']; simp [this]
    simp [execOp, hx, Instr.sliceAt, Instr.slice, run_underlying (kSlice_of hk), hb, run_sizeOf hs]
  unfold OpTo
  rw [hr]
  have hlen : ((xs.take h).drop l).length = h - l := by simp; omega
  refine k _ _ _ ?_ rfl ?_
  · refine ⟨_, _, by rw [hlen], by rw [hlen]; omega, by omega, ?_, ?_⟩
    · intro hn
      split at hn
      · have := h3 hn; omega
      · have : a = none := by cases a <;> simp_all
        have := h3 this; omega
    · intro i y hy
      have hi : i < h - l := by have := (List.getElem?_eq_some_iff.1 hy).1; rw [hlen] at this; exact this
      rw [List.getElem?_drop, List.getElem?_take, if_pos (by omega)] at hy
      obtain ⟨q, cs, ha, hF, hp, hr⟩ := h4 _ _ hy
      have hne : ¬ c = l := by omega
      refine ⟨q.add (l * t.sz), cs, by rw [if_neg hne, ha]; rfl, by rw [add_block]; exact hF, ?_, hr⟩
      rw [add_add, ← Nat.add_mul]; exact hp
  · intro a0 n0 c0 hv0
    cases hv0
    split
    · exact ⟨_, rfl⟩
    · exact ⟨_, rfl⟩

/-- 'make([]T, n, c)': zeros of one cell -/
theorem to_make {t : Ty α} {T et bytes : Nat} {kl kc : IntKind} {n m : Nat} {z : α} {zv : Value} (hk : kElem P T et t.sz bytes = true) (hx : ev e x = .int kl (n : Nat)) (hy : ev e y = .int kc (m : Nat)) (hnm : n = m ∨ n = 0) (hb : bytes * m ≤ 140737488355328) (hm : m ≤ maxLen)
    (hz : kZero P et zv) (h1 : t.sz = 1) (hzv : zv.cells = #[zv]) (hr : ∀ w F, t.rep w F [zv] z)
    (k : ∀ b c w', b = w.heap.size → OwV t et w' b NoK (.slice (some ⟨b, 0, none⟩) n c) (List.replicate n z) → Ext w w' → w.heap.size < w'.heap.size → K (.slice (some ⟨b, 0, none⟩) n c) w') :
    OpTo P ⟨d, .makeSlice T x y, ty, p, af, g⟩ e w K := by
  obtain ⟨ht, i, z', hi, hz', hzs, his, hib⟩ := kElem_of hk
  have hzz : z' = zv := by unfold kZero at hz; simp [hi, hz'] at hz; exact hz
  subst hzz
  have fin : ∀ (w' : World) (cells : List Value), (Instr.makeSlice T (.int kl (n : Int)) (.int kc (m : Int))).run P w = .ok (.slice (some ⟨w.heap.size, 0, none⟩) n m) w' → w'.ownsRow w.heap.size et t.sz (.slice (some ⟨w.heap.size, 0, none⟩) n m) n cells → w.grownBy w' none →
      (∀ (j : Nat) (u : Value), cells[j]? = some u → u = z') → OpTo P ⟨d, .makeSlice T x y, ty, p, af, g⟩ e w K := by
    intro w' cells hrun hown hg hall
    have hr' : (execOp (ev e) ⟨d, .makeSlice T x y, ty, p, af, g⟩).run P w = .ok (.value (.slice (some ⟨w.heap.size, 0, none⟩) n m)) w' := by
      simp [execOp, hx, hy, hrun]
    unfold OpTo
    rw [hr']
    refine k _ _ _ rfl ⟨cells, by simpa using hown, fun j y hy => ?_⟩ ⟨hg.os, hg.tape, hg.output, hg.size, fun k hk _ => hg.block k hk (by simp)⟩ ?_
    · have hjn : j < n := by have := (List.getElem?_eq_some_iff.1 hy).1; simpa using this
      have hyz : y = z := by
        rw [List.getElem?_replicate, if_pos hjn] at hy; exact (Option.some.inj hy).symm
      subst hyz
      have hl : cells.length = n * t.sz := hown.1
      rw [h1, Nat.mul_one] at hl ⊢
      have hc : cells[j]? = some cells[j] := by simp [hl, hjn]
      have : (cells.drop j).take 1 = [z'] := by
        rw [List.drop_eq_getElem_cons (by omega), List.take_succ_cons, List.take_zero]
        rw [hall j _ hc]
      rw [this]
      exact hr _ _
    · exact (hown.lt w.heap.size rfl).2
  rcases hnm with hnm | hnm
  · subst hnm
    obtain ⟨w', hrun, hown, hg⟩ := run_make_full (P := P) w w.heap.size T et i z' t.sz ht hi hz' his kl kc n (by rw [hib]; omega) hm (Nat.le_refl _)
    refine fin w' _ hrun hown hg fun j u hu => ?_
    simp only [madeCells, Array.toList_map] at hu
    rw [hzv] at hu
    simp [Nat.mod_one] at hu
    exact hu.2.symm
  · subst hnm
    obtain ⟨w', hrun, hown, hg⟩ := run_make_own (P := P) w w.heap.size T et i z' t.sz ht hi hz' his kl kc m (by rw [hib]; omega) hm (Nat.le_refl _)
    exact fin w' _ hrun hown hg fun j u hu => by simp at hu
end
end Go.Vc
