/- A part of the proof: steps and lemmas for the walks through the given program. -/
import Derived.Test.YtifnkmflmgnfjaaJEx
namespace Go.Vc
set_option linter.unusedVariables false
set_option linter.unusedSimpArgs false
/-! ### how many states may be tried in vain -/
/-- a client's row: which of its answered requests are done (the first ones), and which of these are in the map -/
def fC (D L : Nat → Bool) : List Nat → List Bool
  | [] => [true]
  | i :: l => if D i then L i :: fC D L l else true :: List.replicate (l.length + 1) false
theorem fC_len (D L : Nat → Bool) : ∀ l : List Nat, (fC D L l).length = l.length + 1
  | [] => rfl
  | i :: l => by
    simp only [fC]
    split
    · simp [fC_len D L l]
    · simp
theorem fC_true (D L : Nat → Bool) : ∀ l : List Nat, true ∈ fC D L l
  | [] => by simp [fC]
  | i :: l => by
    simp only [fC]
    split
    · exact List.mem_cons_of_mem _ (fC_true D L l)
    · simp
def mono (D : Nat → Bool) (l : List Nat) : Prop := l.Pairwise fun i j => D j = true → D i = true
theorem fC_inj {D L D' L' : Nat → Bool} (hL : ∀ i, L i = true → D i = true) (hL' : ∀ i, L' i = true → D' i = true) : ∀ {l : List Nat}, mono D l → mono D' l → fC D L l = fC D' L' l → ∀ i ∈ l, D i = D' i ∧ L i = L' i
  | [], _, _, _ => fun i h => by cases h
  | j :: l, h1, h2, h => by
    have m1 := List.pairwise_cons.1 h1
    have m2 := List.pairwise_cons.1 h2
    simp only [fC] at h
    cases hd : D j with
    | true =>
      cases hd' : D' j with
      | true =>
        rw [hd, hd', if_pos rfl, if_pos rfl] at h
        obtain ⟨h3, h4⟩ := List.cons.inj h
        have ih := fC_inj hL hL' m1.2 m2.2 h4
        intro i hi
        rcases List.mem_cons.1 hi with rfl | hi
        · exact ⟨by rw [hd, hd'], h3⟩
        · exact ih i hi
      | false =>
        rw [hd, hd', if_pos rfl, if_neg zq] at h
        obtain ⟨h3, h4⟩ := List.cons.inj h
        have ht := fC_true D L l
        rw [h4] at ht
        have := List.eq_of_mem_replicate ht
        cases this
    | false =>
      cases hd' : D' j with
      | true =>
        rw [hd, hd', if_pos rfl, if_neg zq] at h
        obtain ⟨h3, h4⟩ := List.cons.inj h
        have ht := fC_true D' L' l
        rw [← h4] at ht
        have := List.eq_of_mem_replicate ht
        cases this
      | false =>
        have hno : ∀ {D L : Nat → Bool} {i : Nat}, (∀ i, L i = true → D i = true) → D i = false → L i = false := fun {D L i} h3 h4 => by
          cases h5 : L i with
          | false => rfl
          | true => rw [h3 i h5] at h4; cases h4
        have hz : ∀ i ∈ j :: l, D i = false ∧ D' i = false := fun i hi => by
          rcases List.mem_cons.1 hi with rfl | hi
          · exact ⟨hd, hd'⟩
          · refine ⟨?_, ?_⟩
            · cases h5 : D i with
              | false => rfl
              | true => rw [m1.1 i hi h5] at hd; cases hd
            · cases h5 : D' i with
              | false => rfl
              | true => rw [m2.1 i hi h5] at hd'; cases hd'
        intro i hi
        obtain ⟨z1, z2⟩ := hz i hi
        exact ⟨by rw [z1, z2], by rw [hno hL z1, hno hL' z2]⟩
def fO (D L : Nat → Bool) : List Nat → List Bool
  | [] => []
  | i :: l => D i :: L i :: fO D L l
theorem fO_len (D L : Nat → Bool) : ∀ l : List Nat, (fO D L l).length = 2 * l.length
  | [] => rfl
  | i :: l => by simp only [fO, List.length_cons, fO_len D L l]; omega
theorem fO_inj {D L D' L' : Nat → Bool} : ∀ {l : List Nat}, fO D L l = fO D' L' l → ∀ i ∈ l, D i = D' i ∧ L i = L' i
  | [], _ => fun i h => by cases h
  | j :: l, h => by
    simp only [fO, List.cons.injEq] at h
    intro i hi
    rcases List.mem_cons.1 hi with rfl | hi
    · exact ⟨h.1, h.2.1⟩
    · exact fO_inj h.2.2 i hi
/-- a row of unlike numbers below a bound is no longer than that -/
theorem nodup_le : ∀ (n : Nat) (l : List Nat), l.Nodup → (∀ x ∈ l, x < n) → l.length ≤ n
  | 0, [], _, _ => Nat.le_refl _
  | 0, x :: l, _, h => absurd (h x (by simp)) (Nat.not_lt_zero _)
  | n + 1, l, hn, h => by
    have h1 := nodup_le n (l.erase n) (hn.erase n) fun x hx => by
      have h2 := (List.Nodup.mem_erase_iff hn).1 hx
      have := h x h2.2
      omega
    by_cases hm : n ∈ l
    · rw [List.length_erase_of_mem hm] at h1; omega
    · rw [List.erase_of_not_mem hm] at h1; omega
theorem nodup_map {α β : Type} {f : α → β} : ∀ {l : List α}, l.Nodup → (∀ x ∈ l, ∀ y ∈ l, f x = f y → x = y) → (l.map f).Nodup
  | [], _, _ => List.nodup_nil
  | x :: l, hn, h => by
    have h1 := List.nodup_cons.1 hn
    rw [List.map_cons, List.nodup_cons]
    refine ⟨fun hm => ?_, nodup_map h1.2 fun a ha b hb => h a (by simp [ha]) b (by simp [hb])⟩
    obtain ⟨y, hy, he⟩ := List.mem_map.1 hm
    have := h y (by simp [hy]) x (by simp) he
    exact h1.1 (this ▸ hy)
/-- two maps in order with the same pairs are one -/
theorem map_ext : ∀ {m m' : MapV}, m.Pairwise (fun a b => a.1 < b.1) → m'.Pairwise (fun a b => a.1 < b.1) → (∀ p, p ∈ m ↔ p ∈ m') → m = m'
  | [], [], _, _, _ => rfl
  | [], q :: m', _, _, h => by have := (h q).2 (by simp); cases this
  | p :: m, [], _, _, h => by have := (h p).1 (by simp); cases this
  | p :: m, q :: m', h1, h2, h => by
    have a1 := List.pairwise_cons.1 h1
    have a2 := List.pairwise_cons.1 h2
    have hpq : p = q := by
      rcases List.mem_cons.1 ((h p).1 (by simp)) with h3 | h3
      · exact h3
      · rcases List.mem_cons.1 ((h q).2 (by simp)) with h4 | h4
        · exact h4.symm
        · exact (lb_asymm (a2.1 p h3) (a1.1 q h4)).elim
    subst hpq
    have hmm : ∀ x, x ∈ m ↔ x ∈ m' := fun x => by
      have h5 := h x
      simp only [List.mem_cons] at h5
      constructor
      · intro hx
        rcases h5.1 (.inr hx) with rfl | h6
        · exact (lb_irrefl _ (a1.1 x hx)).elim
        · exact h6
      · intro hx
        rcases h5.2 (.inr hx) with rfl | h6
        · exact (lb_irrefl _ (a2.1 x hx)).elim
        · exact h6
    rw [map_ext a1.2 a2.2 hmm]
/-- what a request writes -/
def prJ (x : JdV) : PrV := (x.1.2.2.2.1, x.1.2.2.2.2.2.1)
/-- the requests are of the chapter's clients, each client's one behind the other -/
structure RP (r : List JdV) : Prop where
  len : r.length ≤ 32
  opn : (r.filter opnJ).length ≤ 6
  cl : ∀ x ∈ r, 1 ≤ x.1.1 ∧ x.1.1 ≤ 4
  ord : ∀ (i j : Nat) x y, i < j → r[i]? = some x → r[j]? = some y → x.1.1 = y.1.1 → 0 ≤ x.2.2.1 → x.2.2.1 < y.2.1
/-- a state that a search may come to -/
structure GdS (r : List JdV) (d : List Bool) (m : MapV) : Prop where
  len : d.length = r.length
  may : mayMp m = true
  don : ∀ (i : Nat) x, r[i]? = some x → d.getD i false = true → 0 ≤ x.2.2.1 ∨ opnJ x = true
  mono : ∀ (i j : Nat) x y, i < j → r[i]? = some x → r[j]? = some y → x.1.1 = y.1.1 → 0 ≤ x.2.2.1 → 0 ≤ y.2.2.1 → d.getD j false = true → d.getD i false = true
  src : ∀ p ∈ m, ∃ i x, r[i]? = some x ∧ d.getD i false = true ∧ p = prJ x
theorem doM_mem {m : MapV} {a : AkV} {p : PrV} (h : p ∈ (doM m a).1) : p ∈ m ∨ p = (a.2.1, a.2.2.2.1) := by
  obtain ⟨k, key, to, val, was, no, most⟩ := a
  have hs : p ∈ setM m key val → p ∈ m ∨ p = (key, val) := fun h => by
    unfold setM at h
    rcases List.mem_append.1 h with h | h
    · exact .inl (List.mem_of_mem_take h)
    · rcases List.mem_cons.1 h with h | h
      · exact .inr h
      · exact .inl (List.mem_of_mem_drop h)
  have hd : p ∈ delM m key → p ∈ m := fun h => by
    unfold delM at h
    rcases List.mem_append.1 h with h | h
    · exact List.mem_of_mem_take h
    · exact List.mem_of_mem_drop h
  simp only [doM] at h
  split at h
  · split at h <;> exact .inl h
  · split at h
    · exact hs h
    · split at h
      · split at h
        · exact .inl (hd h)
        · exact .inl h
      · split at h
        · split at h
          · exact .inl h
          · exact hs h
        · split at h <;> exact .inl h
theorem GdS.step {r : List JdV} {d : List Bool} {m : MapV} {i : Nat} {x : JdV} (g : GdS r d m) (hr : RP r) (hx : r[i]? = some x) (hm : mayJ r d i = true) (ha : mayAk x.1.2.2 = true) : GdS r (d.set i true) (doM m x.1.2.2).1 := by
  have hi : i < d.length := by rw [g.len]; exact (List.getElem?_eq_some_iff.1 hx).1
  have hg : ∀ j, (d.set i true).getD j false = if i = j then true else d.getD j false := fun j => getD_setB d i j true hi
  have hmj := hm
  unfold mayJ at hmj
  rw [hx] at hmj
  simp only [Bool.and_eq_true] at hmj
  obtain ⟨⟨h1, h2⟩, h3⟩ := hmj
  refine ⟨by rw [List.length_set]; exact g.len, doM_may g.may ha, ?_, ?_, ?_⟩
  · intro j y hy hd
    rw [hg] at hd
    split at hd
    · rename_i he; subst he
      rw [hx] at hy; cases hy
      cases ho : opnJ x with
      | true => exact .inr rfl
      | false =>
        rw [ho, Bool.or_false, Bool.not_eq_true', decide_eq_false_iff_not] at h2
        exact .inl zo
    · exact g.don j y hy hd
  · intro a b y z hab hy hz hc h0 h4 hd
    rw [hg] at hd ⊢
    split
    · rfl
    · split at hd
      · rename_i he; subst he
        rw [hx] at hz; cases hz
        have h5 := List.all_eq_true.1 h3 a (List.mem_range.2 (List.getElem?_eq_some_iff.1 hy).1)
        have h6 := hr.ord a i y x hab hy hx hc h0
        unfold blkJ at h5
        rw [hy] at h5
        simp only [undJ] at h5
        cases h7 : d.getD a false with
        | true => rfl
        | false => rw [h7, decide_eq_true h0, decide_eq_true h6] at h5; cases h5
      · exact g.mono a b y z hab hy hz hc h0 h4 hd
  · intro p hp
    rcases doM_mem hp with h | h
    · obtain ⟨j, y, hy, hd, he⟩ := g.src p h
      refine ⟨j, y, hy, ?_, he⟩
      rw [hg]; split
      · rfl
      · exact hd
    · exact ⟨i, x, hx, by rw [hg, if_pos rfl], h⟩
theorem GdS.nil {r : List JdV} : GdS r (List.replicate r.length false) [] := by
  have h0 : ∀ j, (List.replicate r.length false).getD j false = false := fun j => by
    rw [List.getD_eq_getElem?_getD, List.getElem?_replicate]
    split <;> rfl
  exact ⟨by simp, rfl, fun i x hx h => (by rw [h0] at h; cases h), fun i j x y hij hx hy hc h1 h2 h => (by rw [h0] at h; cases h), fun p h => (by cases h)⟩
/-! ### the code of a state -/
def ansI (r : List JdV) (c : Int) (i : Nat) : Bool := match r[i]? with | some x => decide (x.1.1 = c) && decide (0 ≤ x.2.2.1) | none => false
def opnI (r : List JdV) (i : Nat) : Bool := match r[i]? with | some x => opnJ x | none => false
def ixA (r : List JdV) (c : Int) : List Nat := (List.range r.length).filter (ansI r c)
def ixO (r : List JdV) : List Nat := (List.range r.length).filter (opnI r)
def dB (d : List Bool) (i : Nat) : Bool := d.getD i false
def lB (r : List JdV) (d : List Bool) (m : MapV) (i : Nat) : Bool := d.getD i false && (match r[i]? with | some x => decide (prJ x ∈ m) | none => false)
def codG (r : List JdV) (d : List Bool) (m : MapV) : List Bool :=
  fC (dB d) (lB r d m) (ixA r 1) ++ (fC (dB d) (lB r d m) (ixA r 2) ++ (fC (dB d) (lB r d m) (ixA r 3) ++ (fC (dB d) (lB r d m) (ixA r 4) ++ fO (dB d) (lB r d m) (ixO r))))
theorem filt_sum {p1 p2 p3 p4 q : Nat → Bool} (h : ∀ i, (p1 i).toNat + (p2 i).toNat + (p3 i).toNat + (p4 i).toNat + (q i).toNat ≤ 1) : ∀ l : List Nat, (l.filter p1).length + (l.filter p2).length + (l.filter p3).length + (l.filter p4).length + (l.filter q).length ≤ l.length
  | [] => Nat.le_refl _
  | i :: l => by
    have ih := filt_sum h l
    have hi := h i
    simp only [List.filter_cons, List.length_cons]
    cases h1 : p1 i <;> cases h2 : p2 i <;> cases h3 : p3 i <;> cases h4 : p4 i <;> cases h5 : q i <;> rw [h1, h2, h3, h4, h5] at hi <;> simp at hi ⊢ <;> omega
theorem ixO_len (r : List JdV) : (ixO r).length = (r.filter opnJ).length := by
  have h : ∀ k, k ≤ r.length → ((List.range k).filter (opnI r)).length = ((r.take k).filter opnJ).length := by
    intro k
    induction k with
    | zero => intro _; rfl
    | succ k ih =>
      intro hk
      have hx : r[k]? = some r[k] := List.getElem?_eq_getElem zo
      rw [List.range_succ, List.filter_append, List.length_append, ih zo, List.take_add_one, hx, List.filter_append, List.length_append]
      congr 1
      have h5 : opnI r k = opnJ r[k] := by unfold opnI; rw [hx]
      simp only [Option.toList_some, List.filter_cons, List.filter_nil, h5]
      split <;> rfl
  have := h r.length (Nat.le_refl _)
  rw [List.take_length] at this
  exact this
theorem cod_len {r : List JdV} (hr : RP r) (d : List Bool) (m : MapV) : (codG r d m).length ≤ 42 := by
  have h := filt_sum (p1 := ansI r 1) (p2 := ansI r 2) (p3 := ansI r 3) (p4 := ansI r 4) (q := opnI r) (fun i => by
    unfold ansI opnI
    cases r[i]? with
    | none => decide
    | some x =>
      simp only []
      by_cases h0 : 0 ≤ x.2.2.1
      · have ho : opnJ x = false := by unfold opnJ; rw [decide_eq_false zo]; rfl
        rw [ho, decide_eq_true h0]
        by_cases h1 : x.1.1 = 1
        · simp [h1]
        · by_cases h2 : x.1.1 = 2
          · simp [h2]
          · by_cases h3 : x.1.1 = 3
            · simp [h3]
            · simp only [h1, h2, h3, decide_false, Bool.false_and, Bool.toNat_false, Bool.and_true]
              have := Bool.toNat_le (decide (x.1.1 = 4))
              omega
      · rw [decide_eq_false h0]
        simp only [Bool.and_false, Bool.toNat_false]
        have := Bool.toNat_le (opnJ x)
        omega) (List.range r.length)
  have ho : (ixO r).length ≤ 6 := by rw [ixO_len]; exact hr.opn
  have hl := hr.len
  simp only [List.length_range] at h
  unfold codG
  simp only [List.length_append, fC_len, fO_len]
  unfold ixA ixO at *
  omega
theorem GdS.mono_ix {r : List JdV} {d : List Bool} {m : MapV} (g : GdS r d m) (c : Int) : Go.Vc.mono (dB d) (ixA r c) := by
  unfold Go.Vc.mono ixA
  refine (List.Pairwise.filter _ List.pairwise_lt_range).imp_of_mem ?_
  intro i j hi hj hij hd
  have hi2 := (List.mem_filter.1 hi).2
  have hj2 := (List.mem_filter.1 hj).2
  unfold ansI at hi2 hj2
  cases hx : r[i]? with
  | none => rw [hx] at hi2; cases hi2
  | some x =>
    cases hy : r[j]? with
    | none => rw [hy] at hj2; cases hj2
    | some y =>
      rw [hx] at hi2; rw [hy] at hj2
      simp only [Bool.and_eq_true, decide_eq_true_eq] at hi2 hj2
      exact g.mono i j x y hij hx hy (by rw [hi2.1, hj2.1]) hi2.2 hj2.2 hd
theorem GdS.inj {r : List JdV} (hr : RP r) {d d' : List Bool} {m m' : MapV} (g : GdS r d m) (g' : GdS r d' m') (hc : codG r d m = codG r d' m') : d = d' ∧ m = m' := by
  unfold codG at hc
  have hl : ∀ {d m}, ∀ i, lB r d m i = true → dB d i = true := fun i h => by
    unfold lB at h; rw [Bool.and_eq_true] at h; exact h.1
  obtain ⟨c1, hc⟩ := List.append_inj hc (by rw [fC_len, fC_len])
  obtain ⟨c2, hc⟩ := List.append_inj hc (by rw [fC_len, fC_len])
  obtain ⟨c3, hc⟩ := List.append_inj hc (by rw [fC_len, fC_len])
  obtain ⟨c4, c5⟩ := List.append_inj hc (by rw [fC_len, fC_len])
  have k1 := fC_inj hl hl (g.mono_ix 1) (g'.mono_ix 1) c1
  have k2 := fC_inj hl hl (g.mono_ix 2) (g'.mono_ix 2) c2
  have k3 := fC_inj hl hl (g.mono_ix 3) (g'.mono_ix 3) c3
  have k4 := fC_inj hl hl (g.mono_ix 4) (g'.mono_ix 4) c4
  have k5 := fO_inj c5
  have hall : ∀ i x, r[i]? = some x → d.getD i false = d'.getD i false ∧ lB r d m i = lB r d' m' i := by
    intro i x hx
    have hir : i ∈ List.range r.length := List.mem_range.2 (List.getElem?_eq_some_iff.1 hx).1
    have hcl := hr.cl x (List.mem_of_getElem? hx)
    by_cases h0 : 0 ≤ x.2.2.1
    · have hA : ∀ c, x.1.1 = c → i ∈ ixA r c := fun c h => List.mem_filter.2 ⟨hir, by unfold ansI; rw [hx]; simp only [Bool.and_eq_true, decide_eq_true_eq]; exact ⟨h, h0⟩⟩
      have h4 : x.1.1 = 1 ∨ x.1.1 = 2 ∨ x.1.1 = 3 ∨ x.1.1 = 4 := by omega
      rcases h4 with h | h | h | h
      · exact k1 i (hA 1 h)
      · exact k2 i (hA 2 h)
      · exact k3 i (hA 3 h)
      · exact k4 i (hA 4 h)
    · cases ho : opnJ x with
      | true => exact k5 i (List.mem_filter.2 ⟨hir, by unfold opnI; rw [hx]; exact ho⟩)
      | false =>
        have hz : ∀ {d m}, GdS r d m → d.getD i false = false := fun g => by
          cases h5 : List.getD _ i false with
          | false => rfl
          | true =>
            rcases g.don i x hx h5 with h6 | h6
            · exact (h0 h6).elim
            · rw [ho] at h6; cases h6
        refine ⟨by rw [hz g, hz g'], ?_⟩
        unfold lB
        rw [hz g, hz g']; rfl
  have hdd : d = d' := by
    refine List.ext_getElem? fun i => ?_
    rcases Nat.lt_or_ge i r.length with h | h
    · have h1 := (hall i r[i] (List.getElem?_eq_getElem h)).1
      have e1 : i < d.length := by rw [g.len]; exact h
      have e2 : i < d'.length := by rw [g'.len]; exact h
      rw [List.getD_eq_getElem?_getD, List.getD_eq_getElem?_getD, List.getElem?_eq_getElem e1, List.getElem?_eq_getElem e2] at h1
      rw [List.getElem?_eq_getElem e1, List.getElem?_eq_getElem e2]
      exact congrArg some h1
    · rw [List.getElem?_eq_none (by rw [g.len]; exact h), List.getElem?_eq_none (by rw [g'.len]; exact h)]
  subst hdd
  refine ⟨rfl, map_ext (mayMp_pw g.may) (mayMp_pw g'.may) fun p => ?_⟩
  have hside : ∀ {m m' : MapV}, GdS r d m → (∀ i x, r[i]? = some x → lB r d m i = lB r d m' i) → p ∈ m → p ∈ m' := fun {m m'} g h hp => by
    obtain ⟨i, x, hx, hd, he⟩ := g.src p hp
    have h1 := h i x hx
    unfold lB at h1
    rw [hd, hx] at h1
    simp only [Bool.true_and] at h1
    rw [← he, decide_eq_true hp] at h1
    exact of_decide_eq_true h1.symm
  exact ⟨hside g fun i x hx => (hall i x hx).2, hside g' fun i x hx => (hall i x hx).2.symm⟩
/-- what a text that was tried in vain says -/
def VnT (r : List JdV) (s : List UInt8) : Prop := ∃ d m, s = keyR d m ∧ GdS r d m ∧ seekU r d m = none
theorem bits_le : ∀ (l : List (List Bool)), l.Nodup → (∀ b ∈ l, b.length ≤ 42) → (∀ b ∈ l, ∀ c ∈ l, b.length = c.length) → l.length ≤ 4398046511104 := by
  intro l hn h h2
  have h3 := nodup_le 4398046511104 (l.map bitN) (nodup_map hn fun x hx y hy he => bitN_inj (h2 x hx y hy) he) fun n hn => by
    obtain ⟨b, hb, rfl⟩ := List.mem_map.1 hn
    exact Nat.lt_of_lt_of_le (bitN_lt b) (Nat.pow_le_pow_right zq (h b hb))
  rwa [List.length_map] at h3
theorem vain_le {r : List JdV} (hr : RP r) {T : List (List UInt8)} (hn : T.Nodup) (h : ∀ s ∈ T, VnT r s) : T.length ≤ 4398046511104 := by
  have hch : ∀ s : List UInt8, ∃ c : List Bool, s ∈ T → ∃ d m, s = keyR d m ∧ GdS r d m ∧ c = codG r d m := fun s => by
    by_cases hs : s ∈ T
    · obtain ⟨d, m, h1, h2, _⟩ := h s hs
      exact ⟨_, fun _ => ⟨d, m, h1, h2, rfl⟩⟩
    · exact ⟨[], fun h => (hs h).elim⟩
  obtain ⟨f, hf⟩ := Classical.axiomOfChoice hch
  have h1 := bits_le (T.map f) (nodup_map hn fun s hs t ht he => by
      obtain ⟨d, m, h1, h2, h3⟩ := hf s hs
      obtain ⟨d', m', h1', h2', h3'⟩ := hf t ht
      rw [h3, h3'] at he
      obtain ⟨rfl, rfl⟩ := GdS.inj hr h2 h2' he
      rw [h1, h1']) (fun b hb => by
      obtain ⟨s, hs, rfl⟩ := List.mem_map.1 hb
      obtain ⟨d, m, _, _, h3⟩ := hf s hs
      rw [h3]; exact cod_len hr d m) (fun b hb c hc => by
      obtain ⟨s, hs, rfl⟩ := List.mem_map.1 hb
      obtain ⟨t, ht, rfl⟩ := List.mem_map.1 hc
      obtain ⟨d, m, _, _, h3⟩ := hf s hs
      obtain ⟨d', m', _, _, h3'⟩ := hf t ht
      rw [h3, h3']
      unfold codG
      simp only [List.length_append, fC_len, fO_len])
  rwa [List.length_map] at h1
end Go.Vc
