/- A part of the proof: steps and lemmas for the walks through the given program. -/
import Derived.Test.YtkaangdfpjkjpaaVc19
namespace Go.Vc
set_option linter.unusedVariables false
set_option linter.unusedSimpArgs false
/-! ### a region of any order, cut where all that follows comes after all that went before -/
def bnd (o : Oper) : List Nat := o.after.toList.filterMap fun e => if Region.binds .any e then some e.on else none
theorem cnt_top (f : Nat → Bool) : ∀ n, cnt f n ≤ n
  | 0 => Nat.le_refl _
  | n + 1 => by have := cnt_top f n; simp only [cnt]; split <;> omega
theorem bnd_iff {o : Oper} {j : Nat} : j ∈ bnd o ↔ ∃ e, e ∈ o.after ∧ Region.binds .any e = true ∧ e.on = j := by
  simp only [bnd, List.mem_filterMap]
  constructor
  · rintro ⟨e, he, h⟩
    split at h
    · rename_i hb; cases h; exact ⟨e, by simpa using he, hb, rfl⟩
    · cases h
  · rintro ⟨e, he, hb, rfl⟩
    exact ⟨e, by simpa using he, by rw [hb]; rfl⟩
def rowOf (rows : List Nat) (o : Oper) : Nat := (bnd o).foldl (fun acc j => Nat.lor acc (Nat.lor (rows.getD j 0) (2 ^ j))) 0
def clo (ops : Array Oper) : Nat → List Nat
  | 0 => []
  | n + 1 => let r := clo ops n
             r ++ [match ops[n]? with | some o => rowOf r o | none => 0]
theorem clo_len (ops : Array Oper) : ∀ n, (clo ops n).length = n
  | 0 => rfl
  | n + 1 => by simp [clo, clo_len ops n]
theorem clo_at {ops : Array Oper} : ∀ n k, k < n → ∀ o, ops[k]? = some o → (clo ops n).getD k 0 = rowOf (clo ops k) o
  | 0, k, h, _, _ => by omega
  | n + 1, k, h, o, ho => by
    by_cases hk : k = n
    · subst hk
      simp only [clo, List.getD_eq_getElem?_getD]
      rw [List.getElem?_append_right (by rw [clo_len]; omega), clo_len]
      simp [ho]
    · have ih := clo_at n k (by omega) o ho
      rw [← ih]
      simp only [clo, List.getD_eq_getElem?_getD]
      rw [List.getElem?_append_left (by rw [clo_len]; omega)]
theorem foldl_bit (rows : List Nat) (t : Nat) : ∀ (l : List Nat) (acc : Nat), (l.foldl (fun acc j => Nat.lor acc (Nat.lor (rows.getD j 0) (2 ^ j))) acc).testBit t = true → acc.testBit t = true ∨ ∃ j ∈ l, (rows.getD j 0).testBit t = true ∨ j = t
  | [], acc, h => .inl h
  | j :: l, acc, h => by
    rcases foldl_bit rows t l _ h with h1 | ⟨i, hi, h1⟩
    · have h2 : (acc ||| ((rows.getD j 0) ||| (2 ^ j))).testBit t = true := h1
      rw [Nat.testBit_or, Nat.testBit_or, Nat.testBit_two_pow] at h2
      simp only [Bool.or_eq_true, decide_eq_true_eq] at h2
      rcases h2 with h2 | h2 | h2
      · exact .inl h2
      · exact .inr ⟨j, List.mem_cons_self, .inl h2⟩
      · exact .inr ⟨j, List.mem_cons_self, .inr h2⟩
    · exact .inr ⟨i, List.mem_cons_of_mem _ hi, h1⟩
def barB (ops : Array Oper) (m : Nat) : Bool :=
  let r := clo ops ops.size
  (List.range ops.size).all fun k => Nat.blt k m || Nat.beq (Nat.land (r.getD k 0) (2 ^ m - 1)) (2 ^ m - 1)
theorem clo_sound {ops : Array Oper} (hok : okR ops = true) {L : Nat → Prop} (hL : ∀ j oj, L j → ops[j]? = some oj → ∀ i ∈ bnd oj, L i) : ∀ k o, ops[k]? = some o → (∀ i ∈ bnd o, L i) → ∀ t, ((clo ops ops.size).getD k 0).testBit t = true → L t := by
  intro k
  induction k using Nat.strongRecOn with
  | ind k ih =>
    intro o ho hd t ht
    have hlt : k < ops.size := (Array.getElem?_eq_some_iff.1 ho).1
    rw [clo_at ops.size k hlt o ho] at ht
    rcases foldl_bit _ t _ _ ht with h | ⟨j, hj, h⟩
    · simp at h
    · have hjk : j < k := by
        obtain ⟨e, he, hb, rfl⟩ := bnd_iff.1 hj
        exact okR_edges hok ho e he hb
      rcases h with h | rfl
      · obtain ⟨oj, hoj⟩ : ∃ oj, ops[j]? = some oj := ⟨ops[j], by simp [show j < ops.size by omega]⟩
        refine ih j hjk oj hoj (hL j oj (hd j hj) hoj) t ?_
        rw [clo_at ops.size j (by omega) oj hoj]
        rwa [clo_at k j hjk oj hoj] at h
      · exact hd j hj
theorem barB_sound {ops : Array Oper} {m : Nat} (hok : okR ops = true) (hb : barB ops m = true) {L : Nat → Prop} (hL : ∀ j oj, L j → ops[j]? = some oj → ∀ i ∈ bnd oj, L i) {k : Nat} {o : Oper} (ho : ops[k]? = some o) (hkm : m ≤ k) (hd : ∀ i ∈ bnd o, L i) : ∀ t, t < m → L t := by
  intro t ht
  have hlt : k < ops.size := (Array.getElem?_eq_some_iff.1 ho).1
  have h1 := List.all_eq_true.1 hb k (List.mem_range.2 hlt)
  have h2 : Nat.blt k m = false := by
    cases h : Nat.blt k m with
    | false => rfl
    | true => have : k + 1 ≤ m := by simpa [Nat.blt] using h
              omega
  rw [h2, Bool.false_or] at h1
  have h3 : ((clo ops ops.size).getD k 0 &&& (2 ^ m - 1)) = 2 ^ m - 1 := Nat.eq_of_beq_eq_true h1
  have h4 := congrArg (fun x => Nat.testBit x t) h3
  simp only [Nat.testBit_and, Nat.testBit_two_pow_sub_one, ht, decide_true, Bool.and_true] at h4
  exact clo_sound hok hL k o ho hd t h4
theorem getD_set {L : Array Bool} {i j : Nat} {d : Bool} (h : i < L.size) : (L.setIfInBounds i true).getD j d = if j = i then true else L.getD j d := by
  by_cases hji : j = i
  · subst hji; simp [Array.getD, h]
  · by_cases hlt : j < L.size
    · simp [Array.getD, hlt, hji, Ne.symm hji]
    · simp [Array.getD, hlt, hji]
def shE (m : Nat) (e : Edge) : Option Edge := if Nat.blt e.on m then none else some { e with on := e.on - m }
def shO (m : Nat) (o : Oper) : Oper := { o with after := (o.after.toList.filterMap (shE m)).toArray, guard := o.guard.map fun g => (g.1 - m, g.2) }
/-- no guard of the later part is in the earlier one, and the other way round -/
def gB (m : Nat) (l1 l2 : List Oper) : Bool := (l1.all fun o => match o.guard with | none => true | some g => Nat.blt g.1 m) && (l2.all fun o => match o.guard with | none => true | some g => Nat.ble m g.1)
section
variable {ro : Option Nat} {n : Nat} {P : Program} {Q : Exit → Act → World → Prop}
theorem wpAnyIn_more {F : Fence} {md : Region.Mode} {ops : Array Oper} : ∀ (f f' : Nat) (L : Array Bool) (a : Act) (w : World), f ≤ f' → wpAnyIn F n P md ops Q f L a w → wpAnyIn F n P md ops Q f' L a w
  | 0, 0, _, _, _, _, h => h
  | 0, f' + 1, L, a, w, _, h => ⟨fun _ => h.2, fun i hi => by rw [h.1] at hi; cases hi⟩
  | f + 1, 0, _, _, _, h0, _ => by omega
  | f + 1, f' + 1, L, a, w, h0, h => ⟨h.1, fun i hi => by
      have h1 := h.2 i hi
      unfold wpOpIn at h1 ⊢
      split
      · rename_i ho; rw [ho] at h1; exact wpAnyIn_more f f' _ _ _ (by omega) h1
      · rename_i o ho
        rw [ho] at h1
        simp only [] at h1
        split
        · rename_i hw; rw [if_pos hw] at h1; exact Oper.wpIn_mono (fun a w h => wpAnyIn_more f f' _ a w (by omega) h) h1
        · rename_i hw; rw [if_neg hw] at h1; exact ⟨h1.1, wpAnyIn_more f f' _ _ _ (by omega) h1.2⟩⟩
theorem wpIn_thenQ {F : Fence} {o : Oper} {a : Act} {w : World} {K M : Act → World → Prop} (h : o.wpIn F n P a w K (Exit.then M Q)) : o.wpIn F n P a w K Q := by
  unfold Oper.wpIn at *
  refine ⟨h.1, ?_⟩
  have h2 := h.2
  generalize (o.semAt F.round a.eval).run P w = r at *
  revert h2
  unfold Oper.uponIn
  split
  · exact id
  · exact id
  · exact id
  · rintro ⟨h3, h4⟩
    refine ⟨h3, h4.mono fun e w' he => ?_⟩
    cases e with
    | returned v => exact he
    | panicked c => exact he
    | outgrown => obtain ⟨a', w'', h⟩ := he; exact ⟨a', w'', h⟩
  · exact id
  · rintro ⟨h3, h4⟩
    refine ⟨h3, h4.mono fun e w' he => ?_⟩
    cases e with
    | returned v => exact he
    | panicked c => exact he
    | outgrown => obtain ⟨a', w'', h⟩ := he; exact ⟨a', w'', h⟩
  · exact id
  · exact id
theorem wanted_shO {m : Nat} {ops Bs : Array Oper} {o : Oper} {tmps : Array Value} (hB : ∀ j, Bs[j]? = (ops[m + j]?).map (shO m)) (hg : match o.guard with | none => True | some g => m ≤ g.1) : Region.wanted (shO m o) (yielded Bs tmps) = Region.wanted o (yielded ops tmps) := by
  cases hgd : o.guard with
  | none => simp [Region.wanted, shO, hgd]
  | some g =>
    obtain ⟨i, b⟩ := g
    rw [hgd] at hg
    have hm : m + (i - m) = i := by omega
    have hy : yielded Bs tmps (i - m) = yielded ops tmps i := by
      unfold yielded
      have : ((Bs[i - m]?).bind (·.dst)) = ((ops[i]?).bind (·.dst)) := by
        rw [hB, hm]; cases ops[i]? <;> rfl
      rw [this]
    simp [Region.wanted, shO, hgd, hy]
theorem phB {m : Nat} {ops Bs : Array Oper} (hs : ops.size = m + Bs.size) (hB : ∀ j, Bs[j]? = (ops[m + j]?).map (shO m)) (hg : ∀ j o, ops[m + j]? = some o → match o.guard with | none => True | some g => m ≤ g.1) :
    ∀ (f : Nat) (L lB : Array Bool) (a : Act) (w : World), L.size = ops.size → lB.size = Bs.size → (∀ i, i < m → L.getD i true = true) → (∀ j d, j < Bs.size → L.getD (m + j) d = lB.getD j d) →
      wpAnyIn (Fw ro) n P .any Bs Q f lB a w → wpAnyIn (Fw ro) n P .any ops Q f L a w := by
  have rdy : ∀ (L lB : Array Bool), L.size = ops.size → lB.size = Bs.size → (∀ i, i < m → L.getD i true = true) → (∀ j d, j < Bs.size → L.getD (m + j) d = lB.getD j d) → ∀ i, i ∈ Region.ready .any ops L → ∃ j o, i = m + j ∧ j < Bs.size ∧ ops[m + j]? = some o ∧ j ∈ Region.ready .any Bs lB := by
    intro L lB h1 h2 h3 h4 i hi
    obtain ⟨hu, o, ho, hd⟩ := mem_ready.1 hi
    have hlt : i < ops.size := (Array.getElem?_eq_some_iff.1 ho).1
    have him : m ≤ i := by
      rcases Nat.lt_or_ge i m with h | h
      · rw [h3 i h] at hu; cases hu
      · exact h
    obtain ⟨j, rfl⟩ : ∃ j, i = m + j := ⟨i - m, by omega⟩
    refine ⟨j, o, rfl, by omega, ho, mem_ready.2 ⟨by rw [← h4 j true (by omega)]; exact hu, shO m o, by rw [hB, ho]; rfl, fun e he hb => ?_⟩⟩
    simp only [shO, List.mem_toArray, List.mem_filterMap] at he
    obtain ⟨e0, he0, hs0⟩ := he
    unfold shE at hs0
    split at hs0
    · cases hs0
    · rename_i hge
      have hge' : m ≤ e0.on := by
        rcases Nat.lt_or_ge e0.on m with h | h
        · exact absurd (by simpa [Nat.blt] using (show e0.on + 1 ≤ m from h)) hge
        · exact h
      cases hs0
      have := hd e0 (by simpa using he0) (by simpa [Region.binds] using hb)
      have hlt2 : e0.on < ops.size := by
        rcases Nat.lt_or_ge e0.on ops.size with h | h
        · exact h
        · have : L.getD e0.on false = false := by simp [Array.getD, show ¬ e0.on < L.size by omega]
          simp_all
      have h5 := h4 (e0.on - m) false (by omega)
      rw [show m + (e0.on - m) = e0.on by omega] at h5
      simp only []
      rw [← h5]; exact this
  intro f
  induction f with
  | zero =>
    intro L lB a w h1 h2 h3 h4 h
    refine ⟨?_, h.2⟩
    cases hr : Region.ready .any ops L with
    | nil => rfl
    | cons i l =>
      obtain ⟨j, o, _, _, _, hj⟩ := rdy L lB h1 h2 h3 h4 i (by rw [hr]; exact List.mem_cons_self)
      rw [h.1] at hj; cases hj
  | succ f ih =>
    intro L lB a w h1 h2 h3 h4 h
    refine ⟨fun hn => ?_, fun i hi => ?_⟩
    · refine h.1 ?_
      cases hr : Region.ready .any Bs lB with
      | nil => rfl
      | cons j l =>
        obtain ⟨hu, o', ho', hd⟩ := mem_ready.1 (show j ∈ Region.ready .any Bs lB by rw [hr]; exact List.mem_cons_self)
        have hjB : j < Bs.size := (Array.getElem?_eq_some_iff.1 ho').1
        rw [hB] at ho'
        cases ho : ops[m + j]? with
        | none => rw [ho] at ho'; cases ho'
        | some o =>
          rw [ho] at ho'; cases ho'
          have : m + j ∈ Region.ready .any ops L := mem_ready.2 ⟨by rw [h4 j true hjB]; exact hu, o, ho, fun e he hb => by
            rcases Nat.lt_or_ge e.on m with h5 | h5
            · have h6 := h3 e.on h5
              have h7 : e.on < L.size := by omega
              simp only [Array.getD, h7, dif_pos] at h6 ⊢; exact h6
            · have h6 := hd { e with on := e.on - m } (by
                simp only [shO, List.mem_toArray, List.mem_filterMap]
                refine ⟨e, by simpa using he, ?_⟩
                unfold shE
                have : Nat.blt e.on m = false := by
                  cases hh : Nat.blt e.on m with
                  | false => rfl
                  | true => have : e.on + 1 ≤ m := by simpa [Nat.blt] using hh
                            omega
                rw [this]; rfl) (by simpa [Region.binds] using hb)
              simp only [] at h6
              have h7 : e.on - m < Bs.size := by
                rcases Nat.lt_or_ge (e.on - m) Bs.size with h | h
                · exact h
                · have : lB.getD (e.on - m) false = false := by simp [Array.getD, show ¬ e.on - m < lB.size by omega]
                  simp_all
              have h8 := h4 (e.on - m) false h7
              rw [show m + (e.on - m) = e.on by omega] at h8
              rw [h8]; exact h6⟩
          rw [hn] at this; cases this
    · obtain ⟨j, o, rfl, hjB, ho, hj⟩ := rdy L lB h1 h2 h3 h4 i hi
      have h5 := h.2 j hj
      unfold wpOpIn at h5 ⊢
      have hoB : Bs[j]? = some (shO m o) := by rw [hB, ho]; rfl
      rw [hoB] at h5
      rw [ho]
      simp only [] at h5 ⊢
      rw [wanted_shO hB (hg j o ho)] at h5
      have nxt : ∀ a w, wpAnyIn (Fw ro) n P .any Bs Q f (lB.setIfInBounds j true) a w → wpAnyIn (Fw ro) n P .any ops Q f (L.setIfInBounds (m + j) true) a w := fun a w h6 =>
        ih _ _ a w (by simpa using h1) (by simpa using h2) (fun i hi => by
          rw [getD_set (by omega), if_neg (by omega)]; exact h3 i hi) (fun i d hi => by
          rw [getD_set (by omega), getD_set (by omega)]
          by_cases hij : i = j
          · subst hij; simp
          · rw [if_neg (by omega), if_neg hij]; exact h4 i d hi) h6
      split
      · rename_i hw; rw [if_pos hw] at h5; exact Oper.wpIn_mono nxt h5
      · rename_i hw; rw [if_neg hw] at h5; exact ⟨h5.1, nxt _ _ h5.2⟩
theorem phA {m : Nat} {ops As Bs : Array Oper} (hok : okR ops = true) (hbar : barB ops m = true) (hA : As.size = m) (hs : ops.size = m + Bs.size) (hAt : ∀ j, j < m → As[j]? = ops[j]?) (hB : ∀ j, Bs[j]? = (ops[m + j]?).map (shO m))
    (hg : ∀ j o, ops[m + j]? = some o → match o.guard with | none => True | some g => m ≤ g.1) (hgA : ∀ j o, j < m → ops[j]? = some o → match o.guard with | none => True | some g => g.1 < m) :
    ∀ (fA : Nat) (lA L : Array Bool) (a : Act) (w : World) (f : Nat), lA.size = m → L.size = ops.size → (∀ i d, i < m → L.getD i d = lA.getD i d) → (∀ i d, m ≤ i → i < ops.size → L.getD i d = false) →
      (∀ j oj, L.getD j false = true → ops[j]? = some oj → ∀ i ∈ bnd oj, L.getD i false = true) → cnt (fun i => !lA.getD i true) m ≤ fA → fA + Bs.size ≤ f →
      wpAnyIn (Fw ro) n P .any As (Exit.then (wpR ro n P Bs Q) Q) fA lA a w → wpAnyIn (Fw ro) n P .any ops Q f L a w := by
  have edge : ∀ (j : Nat) (o : Oper), ops[j]? = some o → ∀ i ∈ bnd o, i < j := fun j o ho i hi => by
    obtain ⟨e, he, hb, rfl⟩ := bnd_iff.1 hi
    exact okR_edges hok ho e he hb
  intro fA
  induction fA with
  | zero =>
    intro lA L a w f h1 h2 h3 h4 h5 hc hf h
    have hall := cnt_zero m (Nat.le_zero.1 hc)
    exact phB hs hB hg f L (Array.replicate Bs.size false) a w h2 (by simp) (fun i hi => by rw [h3 i true hi]; have := hall i hi; simpa using this) (fun j d hj => by rw [h4 (m + j) d (by omega) (by omega)]; simp [Array.getD, hj]) (wpAnyIn_more _ f _ a w (by omega) h.2)
  | succ fA ih =>
    intro lA L a w f h1 h2 h3 h4 h5 hc hf h
    by_cases hall : ∀ i, i < m → lA.getD i true = true
    · have hn : Region.ready .any As lA = [] := by
        cases hr : Region.ready .any As lA with
        | nil => rfl
        | cons i l =>
          obtain ⟨hu, o, ho, _⟩ := mem_ready.1 (show i ∈ Region.ready .any As lA by rw [hr]; exact List.mem_cons_self)
          have : i < m := by rw [← hA]; exact (Array.getElem?_eq_some_iff.1 ho).1
          rw [hall i this] at hu; cases hu
      exact phB hs hB hg f L (Array.replicate Bs.size false) a w h2 (by simp) (fun i hi => by rw [h3 i true hi]; exact hall i hi) (fun j d hj => by rw [h4 (m + j) d (by omega) (by omega)]; simp [Array.getD, hj]) (wpAnyIn_more _ f _ a w (by omega) (h.1 hn))
    · obtain ⟨f, rfl⟩ : ∃ f', f = f' + 1 := ⟨f - 1, by omega⟩
      have hex : ∃ i, i < m ∧ (fun i => !lA.getD i true) i = true := by
        apply Classical.byContradiction
        intro hne
        refine hall fun i hi => ?_
        cases hh : lA.getD i true with
        | true => rfl
        | false => exact absurd ⟨i, hi, by simp only [hh]; rfl⟩ hne
      refine ⟨fun hn => ?_, fun i hi => ?_⟩
      · obtain ⟨k, hk, hfk, hmin⟩ := least m hex
        obtain ⟨o, ho⟩ : ∃ o, ops[k]? = some o := ⟨ops[k], by simp [show k < ops.size by omega]⟩
        have : k ∈ Region.ready .any ops L := mem_ready.2 ⟨by rw [h3 k true hk]; simpa using hfk, o, ho, fun e he hb => by
          have hlt := okR_edges hok ho e he hb
          have h6 := hmin e.on hlt
          have h7 : lA.getD e.on true = true := by simpa using h6
          rw [h3 e.on false (by omega)]
          have h8 : e.on < lA.size := by omega
          simp only [Array.getD, h8, dif_pos] at h7 ⊢
          exact h7⟩
        rw [hn] at this; cases this
      · obtain ⟨hu, o, ho, hd⟩ := mem_ready.1 hi
        have hilt : i < ops.size := (Array.getElem?_eq_some_iff.1 ho).1
        have hd' : ∀ j ∈ bnd o, L.getD j false = true := fun j hj => by
          obtain ⟨e, he, hb, rfl⟩ := bnd_iff.1 hj
          exact hd e he hb
        have him : i < m := by
          rcases Nat.lt_or_ge i m with h6 | h6
          · exact h6
          · exfalso
            refine hall fun t ht => ?_
            have := barB_sound hok hbar (L := fun j => L.getD j false = true) h5 ho h6 hd' t ht
            rw [h3 t false ht] at this
            have h8 : t < lA.size := by omega
            simp only [Array.getD, h8, dif_pos] at this ⊢
            exact this
        have hoA : As[i]? = some o := by rw [hAt i him, ho]
        have hiA : i ∈ Region.ready .any As lA := mem_ready.2 ⟨by rw [← h3 i true him]; exact hu, o, hoA, fun e he hb => by
          have hlt := okR_edges hok ho e he hb
          rw [← h3 e.on false (by omega)]; exact hd e he hb⟩
        have h6 := h.2 i hiA
        unfold wpOpIn at h6 ⊢
        rw [hoA] at h6
        rw [ho]
        simp only [] at h6 ⊢
        have hwt : Region.wanted o (yielded As a.tmps) = Region.wanted o (yielded ops a.tmps) := by
          have hgg := hgA i o him ho
          unfold Region.wanted
          cases hgd : o.guard with
          | none => rfl
          | some g =>
            rw [hgd] at hgg
            simp only []
            have : yielded As a.tmps g.1 = yielded ops a.tmps g.1 := by unfold yielded; rw [hAt g.1 hgg]
            rw [this]
        rw [hwt] at h6
        have nxt : ∀ a w, wpAnyIn (Fw ro) n P .any As (Exit.then (wpR ro n P Bs Q) Q) fA (lA.setIfInBounds i true) a w → wpAnyIn (Fw ro) n P .any ops Q f (L.setIfInBounds i true) a w := fun a w h7 => by
          refine ih _ _ a w f (by simpa using h1) (by simpa using h2) (fun j d hj => ?_) (fun j d hj hj2 => ?_) (fun j oj hj hoj k hk => ?_) ?_ (by omega) h7
          · rw [getD_set (by omega), getD_set (by omega), h3 j d hj]
          · rw [getD_set (by omega), if_neg (by omega)]; exact h4 j d hj hj2
          · rw [getD_set (by omega)] at hj ⊢
            by_cases hji : j = i
            · subst hji
              rw [ho] at hoj; cases hoj
              split
              · rfl
              · exact hd' k hk
            · rw [if_neg hji] at hj
              split
              · rfl
              · exact h5 j oj hj hoj k hk
          · have h8 : lA.getD i true = false := by rw [← h3 i true him]; exact hu
            have := cnt_lt (f := fun i => !lA.getD i true) (g := fun j => !(lA.setIfInBounds i true).getD j true) (i := i) (fun j hj => by
              rw [getD_set (by omega)] at hj
              by_cases hji : j = i
              · simp [hji] at hj
              · simpa [hji] using hj) (by simp only [h8]; rfl) (by rw [getD_set (by omega)]; simp) m him
            omega
        split
        · rename_i hw; rw [if_pos hw] at h6; exact Oper.wpIn_mono nxt (wpIn_thenQ h6)
        · rename_i hw; rw [if_neg hw] at h6; exact ⟨h6.1, nxt _ _ h6.2⟩
/-- the cut -/
theorem r_cut {l : List Oper} {a : Act} {w : World} (m : Nat) (hm : Nat.ble m l.length = true) (hok : okR l.toArray = true) (hbar : barB l.toArray m = true) (hg : gB m (l.take m) (l.drop m) = true)
    (h : wpR ro n P (l.take m).toArray (Exit.then (wpR ro n P ((l.drop m).map (shO m)).toArray Q) Q) a w) : wpR ro n P l.toArray Q a w := by
  have hm' : m ≤ l.length := Nat.le_of_ble_eq_true hm
  simp only [gB, Bool.and_eq_true] at hg
  have hsz : (l.take m).length = m := by simp; omega
  refine phA (ops := l.toArray) (As := (l.take m).toArray) (Bs := ((l.drop m).map (shO m)).toArray) hok hbar (by simpa using hsz) (by simp; omega) (fun j hj => by simp [List.getElem?_take_of_lt hj]) (fun j => by simp) (fun j o ho => ?_) (fun j o hj ho => ?_)
    m (Array.replicate (l.take m).toArray.size false) (Array.replicate l.toArray.size false) a w l.toArray.size (by simp; omega) (by simp) (fun i d hi => ?_) (fun i d hi hi2 => ?_) (fun j oj hj _ => ?_) (cnt_top _ _) ?_ (by simpa [wpR, hsz, Nat.min_eq_left hm'] using h)
  · have := List.all_eq_true.1 hg.2 o (List.mem_of_getElem? (i := j) (by simpa using ho))
    cases hgd : o.guard with
    | none => trivial
    | some g => rw [hgd] at this; exact Nat.le_of_ble_eq_true this
  · have := List.all_eq_true.1 hg.1 o (List.mem_of_getElem? (i := j) (by simpa [List.getElem?_take_of_lt hj] using ho))
    cases hgd : o.guard with
    | none => trivial
    | some g => rw [hgd] at this; have h2 : g.1 + 1 ≤ m := by simpa [Nat.blt] using this
                exact h2
  · have h1 : i < l.length := by omega
    have h2 : i < (l.take m).length := by omega
    simp [Array.getD, h1, h2, hi]
    intro h3; omega
  · have h1 : i < l.length := by simpa using hi2
    simp [Array.getD, h1]
  · exfalso
    by_cases h1 : j < l.length
    · simp [Array.getD, h1] at hj
    · simp [Array.getD, h1] at hj
  · simp; omega
theorem wp_any {id : Nat} {ops : Array Oper} {a : Act} {w : World} (hm : P.follows .mixedOrders = true) (h : wpR ro n P ops Q a { w with drawn := w.drawn + 1 }) : (Code.region id ops true).wpIn (Fw ro) n P Q a w := wpIn_region_any hm h
/-- one operation alone -/
theorem r_one {N : Nat} {ds : List Deferred} {o : Oper} {e : Nat → Value} {w : World} (hl : opsLt N #[o] = true) (hb : bnd o = []) (h : wpL P N #[o] (Qd ds Q) [o] e w) : wpR ro n P #[o] Q (FrD N e ds) w := by
  have h1 := wpL_sound (ro := ro) (n := n) hl [o] (by simpa [opsLt] using hl) e w h
  have hrd : ∀ (L : Array Bool), L.size = 1 → ∀ i, i ∈ Region.ready .any #[o] L → i = 0 ∧ L.getD 0 true = false := fun L hL i hi => by
    obtain ⟨hu, o', ho, _⟩ := mem_ready.1 hi
    have := (Array.getElem?_eq_some_iff.1 ho).1
    have : i = 0 := by simpa using this
    subst this; exact ⟨rfl, hu⟩
  have fin : ∀ a w, Q .normal a w → wpAnyIn (Fw ro) n P .any #[o] Q 0 ((Array.replicate 1 false).setIfInBounds 0 true) a w := fun a w hq => by
    refine ⟨?_, hq⟩
    cases hr : Region.ready .any #[o] ((Array.replicate 1 false).setIfInBounds 0 true) with
    | nil => rfl
    | cons i l =>
      obtain ⟨_, h2⟩ := hrd ((Array.replicate 1 false).setIfInBounds 0 true) (by simp) i (by rw [hr]; exact List.mem_cons_self)
      simp [Array.getD] at h2
  refine ⟨fun hn => ?_, fun i hi => ?_⟩
  · exfalso
    have : 0 ∈ Region.ready .any #[o] (Array.replicate 1 false) := mem_ready.2 ⟨by simp [Array.getD], o, rfl, fun e he hbb => by
      have : e.on ∈ bnd o := bnd_iff.2 ⟨e, he, hbb, rfl⟩
      rw [hb] at this; cases this⟩
    have h2 : Region.ready .any #[o] (Array.replicate 1 false) = [] := hn
    rw [h2] at this; cases this
  · obtain ⟨rfl, _⟩ := hrd _ (by simp) i hi
    unfold wpOpIn
    rw [show (#[o] : Array Oper)[0]? = some o from rfl]
    dsimp only
    unfold wpListIn at h1
    split
    · rename_i hw
      rw [if_pos hw] at h1
      exact Oper.wpIn_mono (fun a w hq => fin a w (by simpa [wpListIn] using hq)) h1
    · rename_i hw
      rw [if_neg hw] at h1
      exact ⟨h1.1, fin _ _ (by simpa [wpListIn] using h1.2)⟩
end
end Go.Vc
