/- A part of the proof: steps and lemmas for the walks through the given program. -/
import Derived.Test.YteehplloacefmaaMTy
import Derived.Test.YteehplloacefmaaCz
namespace Go.Vc
set_option linter.unusedVariables false
set_option linter.unusedSimpArgs false
/-! ### what the chapter says of states: plain laws -/
theorem mayL_pw : ∀ (l : List RgV), mayL l = true → l.Pairwise (fun r s => r.1 < s.1)
  | [], _ => List.Pairwise.nil
  | [r], _ => List.pairwise_singleton _ _
  | r :: s :: l, h => by
    rw [mayL_two, Bool.and_eq_true] at h
    obtain ⟨h1, h2⟩ := h
    simp only [oneOk, Bool.and_eq_true, decide_eq_true_eq] at h1
    have hrs : r.1 < s.1 := by rw [← h1.2]; exact h1.1.2
    have ih := mayL_pw (s :: l) h2
    refine List.pairwise_cons.2 ⟨fun x hx => ?_, ih⟩
    rcases List.mem_cons.1 hx with rfl | hx
    · exact hrs
    · exact lb_le_trans hrs ((List.pairwise_cons.1 ih).1 x hx)
theorem from_one {l : List RgV} (h : mayL l = true) {r s : RgV} (hr : r ∈ l) (hs : s ∈ l) (he : r.1 = s.1) : r = s := by
  have hp := mayL_pw l h
  obtain ⟨i, hi, rfl⟩ := List.getElem_of_mem hr
  obtain ⟨j, hj, rfl⟩ := List.getElem_of_mem hs
  rw [List.pairwise_iff_getElem] at hp
  rcases Nat.lt_trichotomy i j with h1 | h1 | h1
  · have := hp i j hi hj h1; rw [he] at this; exact absurd this (List.lt_irrefl _)
  · subst h1; rfl
  · have := hp j i hj hi h1; rw [he] at this; exact absurd this (List.lt_irrefl _)
theorem begI_some {l : List RgV} {k : List UInt8} {i : Nat} (h : begI l k = some i) : i < l.length ∧ (l.getD i rg0).1 = k := by
  rw [begI, List.findIdx?_eq_some_iff_getElem] at h
  obtain ⟨h1, h2, _⟩ := h
  refine ⟨h1, ?_⟩
  have e1 : l.getD i rg0 = l[i] := by simp [h1]
  rw [e1]; simpa [begB] using h2
theorem begI_mem {l : List RgV} {k : List UInt8} {r : RgV} (hr : r ∈ l) (hk : r.1 = k) : ∃ i, begI l k = some i := by
  rcases hi : begI l k with _ | i
  · rw [begI, List.findIdx?_eq_none_iff] at hi
    have := hi r hr
    simp [begB, hk] at this
  · exact ⟨i, rfl⟩
def OnR (rs : List RgV) (x : MaV) : Prop := ∃ r ∈ rs, r.1 = x.1.2.1 ∧ r.2.2.1 = x.1.2.2.2.1 ∧ r.2.1 = x.1.2.2.1 ∧ r.2.2.2 = (if x.2 then x.1.2.2.2.2.2 else x.1.2.2.2.2.1)
theorem atMa_iff {rs : List RgV} (hm : mayL rs = true) {x : MaV} : atMa rs x = true ↔ OnR rs x := by
  unfold atMa OnR
  constructor
  · intro h
    rcases hi : begI rs x.1.2.1 with _ | i
    · rw [hi] at h; cases h
    · rw [hi] at h
      simp only [Bool.and_eq_true, decide_eq_true_eq] at h
      obtain ⟨h1, h2⟩ := begI_some hi
      exact ⟨_, getD_mem h1, h2, h.1.1, h.1.2, h.2⟩
  · rintro ⟨r, hr, h1, h2, h3, h4⟩
    obtain ⟨i, hi⟩ := begI_mem hr h1
    obtain ⟨hlt, hf⟩ := begI_some hi
    have : rs.getD i rg0 = r := from_one hm (getD_mem hlt) hr (hf.trans h1.symm)
    rw [hi]; simp only [this, h2, h3, h4, decide_true, Bool.and_self]
def MvsOk (rs : List RgV) (n : Int) (l : List MaV) : Prop := (∀ x ∈ l, mayMv x.1 = true ∧ x.1.1 < n ∧ atMa rs x = true) ∧ l.Pairwise (fun y x => y.1.1 < x.1.1 ∧ y.1.2.1 ≠ x.1.2.1)
theorem okMa_at {rs : List RgV} {n : Int} {l : List MaV} {i : Nat} {x : MaV} (hx : l[i]? = some x) : okMa rs n l i = true ↔ (mayMv x.1 = true ∧ x.1.1 < n ∧ atMa rs x = true) ∧ (∀ (j : Nat) (y : MaV), i = j + 1 → l[j]? = some y → y.1.1 < x.1.1) ∧ ∀ y ∈ l.take i, y.1.2.1 ≠ x.1.2.1 := by
  have hi := (List.getElem?_eq_some_iff.1 hx).1
  unfold okMa
  rw [hx]
  simp only [Bool.and_eq_true, decide_eq_true_eq, List.all_eq_true, Bool.not_eq_true', decide_eq_false_iff_not]
  constructor
  · rintro ⟨⟨⟨⟨h1, h2⟩, h3⟩, h4⟩, h5⟩
    refine ⟨⟨h1, h2, h4⟩, fun j y hj hy => ?_, h5⟩
    subst hj; simp only at h3; rw [hy] at h3; simpa using h3
  · rintro ⟨⟨h1, h2, h4⟩, h3, h5⟩
    refine ⟨⟨⟨⟨h1, h2⟩, ?_⟩, h4⟩, h5⟩
    cases i with
    | zero => rfl
    | succ j =>
      simp only
      have hj : l[j]? = some l[j] := by rw [List.getElem?_eq_getElem zo]
      rw [hj]; simpa using h3 j _ rfl hj
theorem mayMa_iff {rs : List RgV} {n : Int} {l : List MaV} : mayMa rs n l = true ↔ MvsOk rs n l := by
  constructor
  · intro h
    have hall : ∀ i (hi : i < l.length), (mayMv l[i].1 = true ∧ l[i].1.1 < n ∧ atMa rs l[i] = true) ∧ (∀ (j : Nat) (y : MaV), i = j + 1 → l[j]? = some y → y.1.1 < l[i].1.1) ∧ ∀ y ∈ l.take i, y.1.2.1 ≠ l[i].1.2.1 :=
      fun i hi => (okMa_at (List.getElem?_eq_getElem hi)).1 (mayMa_at h hi)
    refine ⟨fun x hx => ?_, ?_⟩
    · obtain ⟨i, hi, rfl⟩ := List.getElem_of_mem hx
      exact (hall i hi).1
    · rw [List.pairwise_iff_getElem]
      have hnum : ∀ (j : Nat) (hj : j < l.length) (i : Nat) (hij : i < j), (l[i]'zo).1.1 < l[j].1.1 := by
        intro j
        induction j with
        | zero => intro hj i hij; omega
        | succ k ih =>
          intro hj i hij
          have h1 := (hall (k + 1) hj).2.1 k _ rfl (List.getElem?_eq_getElem zo)
          rcases Nat.lt_or_ge i k with h2 | h2
          · have := ih zo i h2; omega
          · obtain rfl : i = k := by omega
            exact h1
      intro i j hi hj hij
      refine ⟨hnum j hj i hij, (hall j hj).2.2 _ ?_⟩
      rw [List.mem_take_iff_getElem]
      exact ⟨i, by omega, rfl⟩
  · rintro ⟨h1, h2⟩
    rw [List.pairwise_iff_getElem] at h2
    refine mayMa_yes fun i hi => (okMa_at (List.getElem?_eq_getElem hi)).2 ⟨h1 _ (List.getElem_mem hi), fun j y hj hy => ?_, fun y hy => ?_⟩
    · subst hj
      obtain ⟨hjl, rfl⟩ := List.getElem?_eq_some_iff.1 hy
      exact (h2 j (j + 1) hjl hi zo).1
    · rw [List.mem_take_iff_getElem] at hy
      obtain ⟨j, hj, rfl⟩ := hy
      exact (h2 j i zo hi zo).2
theorem mayMt_iff {s : MtV} : mayMt s = true ↔ mayM s.1 = true ∧ 1 ≤ s.2.1 ∧ s.2.1 ≤ 2147483647 ∧ MvsOk s.1.2 s.2.1 s.2.2 := by
  simp only [mayMt, Bool.and_eq_true, decide_eq_true_eq, mayMa_iff]
  constructor
  · rintro ⟨⟨⟨h1, h2⟩, h3⟩, h4⟩; exact ⟨h1, h2, h3, h4⟩
  · rintro ⟨h1, h2, h3, h4⟩; exact ⟨⟨⟨h1, h2⟩, h3⟩, h4⟩
theorem mvgB_no {l : List MaV} {k : List UInt8} (h : mvgB l k = false) {x : MaV} (hx : x ∈ l) : x.1.2.1 ≠ k := by
  intro he
  rw [mvgB, List.any_eq_false] at h
  exact h x hx (by simp [he])
theorem MvsOk.mv {rs rs' : List RgV} {n : Int} {l : List MaV} (h : MvsOk rs n l) (hm : mayL rs = true) (hm' : mayL rs' = true) (hr : ∀ r ∈ rs, (∃ x ∈ l, x.1.2.1 = r.1) → r ∈ rs') : MvsOk rs' n l := by
  refine ⟨fun x hx => ?_, h.2⟩
  obtain ⟨h1, h2, h3⟩ := h.1 x hx
  refine ⟨h1, h2, (atMa_iff hm').2 ?_⟩
  obtain ⟨r, hr1, hr2⟩ := (atMa_iff hm).1 h3
  exact ⟨r, hr r hr1 ⟨x, hx, hr2.1.symm⟩, hr2⟩
theorem mem_parts {l : List RgV} {i : Nat} (hi : i < l.length) {r : RgV} (hr : r ∈ l) (hn : r ≠ l.getD i rg0) : r ∈ l.take i ∨ r ∈ l.drop (i + 1) := by
  rw [split_at hi] at hr
  rcases List.mem_append.1 hr with h | h
  · exact .inl (by simpa using h)
  · rcases List.mem_cons.1 h with h | h
    · exact absurd h hn
    · exact .inr h
theorem union_at {e : Int} {l : List RgV} {k : List UInt8} {o : MpV} (hm : mayM (e, l) = true) (h : unionM (e, l) k = (o, 0)) : ∃ i, begI l k = some (i + 1) ∧ i + 1 < l.length ∧ o.2 = l.take i ++ ((l.getD i rg0).1, (l.getD (i + 1) rg0).2.1, (l.getD (i + 1) rg0).2.2.1, (l.getD i rg0).2.2.2) :: l.drop (i + 1 + 1) := by
  unfold unionM at h
  split at h
  · cases h
  rename_i h1
  have hk : keyB k = true := by revert h1; rw [hm]; cases keyB k <;> simp
  split at h
  · cases h
  rename_i i hi
  split at h
  · cases h
  have h2 := beg_pos hi hk
  obtain ⟨_, h3, _⟩ := findO_at hi
  obtain ⟨j, rfl⟩ : ∃ j, i = j + 1 := ⟨i - 1, by omega⟩
  simp only [Nat.add_sub_cancel] at h
  obtain ⟨_, _, ho⟩ := next_ok h
  refine ⟨j, ?_, h3, ?_⟩
  · rw [findO, if_pos hm] at hi; exact hi
  · rw [ho]; simp
theorem give_at {e : Int} {l : List RgV} {k : List UInt8} {g : Int} {o : MpV} (hm : mayM (e, l) = true) (h : giveM (e, l) k g = (o, 0)) : ∃ i, begI l k = some i ∧ i < l.length ∧ o.2 = l.set i ((l.getD i rg0).1, (l.getD i rg0).2.1, (l.getD i rg0).2.2.1, g) := by
  unfold giveM at h
  split at h
  · cases h
  split at h
  · cases h
  rename_i i hi
  split at h
  · cases h
  obtain ⟨_, h3, _⟩ := findO_at hi
  obtain ⟨_, _, ho⟩ := next_ok h
  exact ⟨i, by rw [findO, if_pos hm] at hi; exact hi, h3, by rw [ho]⟩
theorem mayL_each : ∀ (l : List RgV), mayL l = true → ∀ r ∈ l, if r.2.2.1 then keyB r.2.1 = true ∧ r.1 < r.2.1 else r.2.1 = []
  | [], _, r, hr => by cases hr
  | [r0], h, r, hr => by
    simp only [List.mem_singleton] at hr; subst hr
    simp only [mayL, Bool.and_eq_true, Bool.not_eq_true'] at h
    rw [h.1.2]; simpa using List.isEmpty_iff.1 h.2
  | r0 :: s :: l, h, r, hr => by
    rw [mayL_two, Bool.and_eq_true] at h
    rcases List.mem_cons.1 hr with rfl | hr
    · have h1 := h.1
      simp only [oneOk, Bool.and_eq_true, decide_eq_true_eq] at h1
      rw [h1.1.1.1.2]
      simp only [if_true]
      refine ⟨?_, h1.1.2⟩
      have hne : r.2.1 ≠ [] := by intro h9; have := h1.1.2; rw [h9] at this; exact lb_nil _ this
      simp only [keyB, Bool.and_eq_true, decide_eq_true_eq]
      exact ⟨by cases hq : r.2.1 with
        | nil => exact absurd hq hne
        | cons a b => simp, h1.1.1.2⟩
    · exact mayL_each (s :: l) h.2 r hr
theorem do_keeps {s s' : MtV} {c : CmV} (h : doMt s c = (s', 0)) : mayMt s' = true ∧ (s.1.1 ≤ s'.1.1 ∧ s'.1.1 ≤ s.1.1 + 1) ∧ (s.2.1 ≤ s'.2.1 ∧ s'.2.1 ≤ s.2.1 + 1) ∧ ∀ x ∈ s.2.2, (∃ y ∈ s'.2.2, y.1 = x.1) ∨ (c.1 = 10 ∧ x.2 = true ∧ c.2.2.1.1 = x.1.1) := by
  unfold doMt at h
  split at h
  · cases h
  rename_i hmay
  simp only [Bool.and_eq_false_iff, not_or, Bool.not_eq_false] at hmay
  obtain ⟨hs, hc⟩ := hmay
  split at h
  · rename_i h0
    obtain ⟨p1, p2, p3, p4⟩ := mayMt_iff.1 hs
    obtain ⟨⟨e, rs⟩, n, ms⟩ := s
    obtain ⟨k, rq, mv, en, an, key, g⟩ := c
    simp only at p1 p2 p3 p4 h ⊢
    obtain ⟨q1, q2, q3, q4, q5, q6⟩ := mayM_parts p1
    simp only at q1 q2 q3 q4 q5 q6
    unfold stMt at h
    simp only at h
    split at h
    ·
      split at h
      · cases h
      rename_i hmv
      have hmv : mvgB ms (rgAt rs (findO (e, rs) (hasB key))).1 = false := by simpa using hmv
      rcases hsp : splitM (e, rs) key with ⟨o, er⟩
      rw [hsp] at h
      obtain ⟨rfl, rfl⟩ := Prod.mk.inj h
      obtain ⟨hmo, heo⟩ := split_may p1 hsp
      obtain ⟨hk, hb, i, hi, hh, hn⟩ := split_ok p1 hsp
      obtain ⟨_, _, ho⟩ := next_ok hn
      obtain ⟨j, hj, hjl, hone⟩ := one_has p1 key
      have hij : i = j := by have := hone i _ (getD_at hi); rw [hh] at this; simpa using this.symm
      subst hij
      rw [hj] at hmv
      refine ⟨mayMt_iff.2 ⟨hmo, p2, p3, p4.mv q6 (mayM_parts hmo).2.2.2.2.2 fun r hr ⟨x, hx, hxr⟩ => ?_⟩, ⟨by simp only; omega, by simp only; omega⟩, ⟨by simp only; omega, by simp only; omega⟩, fun x hx => .inl ⟨x, hx, rfl⟩⟩
      have hne : r ≠ rs.getD i rg0 := fun he => mvgB_no hmv hx (by rw [hxr, he]; rfl)
      rw [ho]
      rcases mem_parts hi hr hne with h9 | h9
      · exact List.mem_append_left _ (List.mem_append_left _ h9)
      · exact List.mem_append_right _ h9
    · split at h
      ·
        rcases hsp : unionM (e, rs) key with ⟨o, er⟩
        rw [hsp] at h
        have hfin : er = 0 → (∀ i, begI rs key = some (i + 1) → mvgB ms key = false ∧ mvgB ms (rs.getD i rg0).1 = false) → (mayMt (o, n, ms) = true ∧ (e ≤ o.1 ∧ o.1 ≤ e + 1) ∧ (n ≤ n ∧ n ≤ n + 1) ∧ ∀ x ∈ ms, (∃ y ∈ ms, y.1 = x.1) ∨ (k = 10 ∧ x.2 = true ∧ mv.1 = x.1.1)) := fun her hmv => by
          subst her
          obtain ⟨hmo, heo⟩ := union_may p1 hsp
          obtain ⟨i, hi, hil, ho⟩ := union_at p1 hsp
          obtain ⟨m1, m2⟩ := hmv i hi
          have hkf := (begI_some hi).2
          try simp only at heo
          refine ⟨mayMt_iff.2 ⟨hmo, p2, p3, p4.mv q6 (mayM_parts hmo).2.2.2.2.2 fun r hr ⟨x, hx, hxr⟩ => ?_⟩, ⟨by omega, by omega⟩, ⟨by omega, by omega⟩, fun x hx => .inl ⟨x, hx, rfl⟩⟩
          have n1 : r ≠ rs.getD i rg0 := fun he => mvgB_no m2 hx (by rw [hxr, he])
          have n2 : r ≠ rs.getD (i + 1) rg0 := fun he => mvgB_no m1 hx (by rw [hxr, he, hkf])
          simp only at ho ⊢
          rw [ho]
          rcases mem_parts zo hr n1 with h9 | h9
          · exact List.mem_append_left _ h9
          · refine List.mem_append_right _ (List.mem_cons_of_mem _ ?_)
            have hd : rs.drop (i + 1) = rs.getD (i + 1) rg0 :: rs.drop (i + 1 + 1) := by
              rw [List.drop_eq_getElem_cons hil]; congr 1; simp [hil]
            rw [hd] at h9
            exact (List.mem_cons.1 h9).resolve_left n2
        rcases hb : begI rs key with _ | _ | i
        · simp only [hb] at h
          obtain ⟨h1, h2⟩ := Prod.mk.inj h
          subst h1
          exact hfin h2 (fun j hj => by rw [hb] at hj; cases hj)
        · simp only [hb] at h
          obtain ⟨h1, h2⟩ := Prod.mk.inj h
          subst h1
          exact hfin h2 (fun j hj => by rw [hb] at hj; cases hj)
        · simp only [hb] at h
          by_cases hmv : (mvgB ms key || mvgB ms (rs.getD i rg0).1) = true
          · rw [if_pos hmv] at h; obtain ⟨_, h2⟩ := Prod.mk.inj h; exact absurd h2 zq
          · rw [if_neg hmv] at h
            simp only [Bool.or_eq_true, not_or, Bool.not_eq_true] at hmv
            obtain ⟨h1, h2⟩ := Prod.mk.inj h
            subst h1
            exact hfin h2 (fun j hj => by rw [hb] at hj; cases hj; exact hmv)
      · split at h
        ·
          rename_i hk8
          subst hk8
          unfold begMt at h
          simp only at h
          split at h
          · cases h
          rename_i i hi
          split at h
          · cases h
          rename_i hmv
          simp only [Bool.or_eq_true, not_or, Bool.not_eq_true, decide_eq_false_iff_not] at hmv
          obtain ⟨m1, m2⟩ := hmv
          split at h
          · cases h
          rename_i hnx
          obtain ⟨rfl, -⟩ := Prod.mk.inj h
          obtain ⟨hil, hif⟩ := begI_some hi
          have hmem := getD_mem (l := rs) hil
          obtain ⟨l1, l2, l3⟩ := mayM_lens p1 _ hmem
          have hea := mayL_each rs q6 _ hmem
          obtain ⟨_, _, _, _, _, _, mg⟩ := mayCm_k hc
          obtain ⟨_, mg1, mg2⟩ := mg rfl
          have hmay : mayMv (n, (rs.getD i rg0).1, (rs.getD i rg0).2.1, (rs.getD i rg0).2.2.1, (rs.getD i rg0).2.2.2, g) = true := by
            simp only [mayMv, nmB, Bool.and_eq_true, decide_eq_true_eq, Bool.not_eq_true', decide_eq_false_iff_not]
            refine ⟨⟨⟨⟨⟨⟨p2, by omega⟩, l1⟩, l3⟩, by simp [grpB]; omega⟩, m2⟩, ?_⟩
            split at hea
            · rename_i he; rw [if_pos he, hea.1]; simpa using hea.2
            · rename_i he; rw [if_neg he, hea]; rfl
          refine ⟨mayMt_iff.2 ⟨p1, by simp only; omega, by simp only; omega, fun x hx => ?_, ?_⟩, ⟨by simp only; omega, by simp only; omega⟩, ⟨by simp only; omega, by simp only; omega⟩, fun x hx => .inl ⟨x, List.mem_append_left _ hx, rfl⟩⟩
          · rcases List.mem_append.1 hx with hx | hx
            · obtain ⟨h1, h2, h3⟩ := p4.1 x hx
              exact ⟨h1, by simp only; omega, h3⟩
            · simp only [List.mem_singleton] at hx; subst hx
              exact ⟨hmay, by simp only; omega, (atMa_iff q6).2 ⟨_, hmem, rfl, rfl, rfl, rfl⟩⟩
          · rw [List.pairwise_append]
            refine ⟨p4.2, List.pairwise_singleton _ _, fun y hy x hx => ?_⟩
            simp only [List.mem_singleton] at hx; subst hx
            exact ⟨(p4.1 y hy).2.1, fun he => mvgB_no m1 hy (he.trans hif)⟩
        · split at h
          ·
            rename_i hk9
            unfold goMt at h
            simp only at h
            split at h
            · cases h
            rename_i i hi
            rw [List.findIdx?_eq_some_iff_getElem] at hi
            obtain ⟨hil, hst, _⟩ := hi
            simp only [stepB, Bool.and_eq_true, decide_eq_true_eq, Bool.not_eq_true', decide_eq_false_iff_not] at hst
            obtain ⟨hst1, hst2⟩ := hst
            split at h
            · rename_i hcut
              split at h
              · rename_i hg0
                obtain ⟨rfl, -⟩ := Prod.mk.inj h
                rcases hsp : giveM (e, rs) mv.2.1 mv.2.2.2.2.2 with ⟨o, er⟩
                have hg1 : er = 0 := by rw [hsp] at hg0; exact hg0
                subst hg1
                obtain ⟨hmo, heo⟩ := give_may p1 hsp
                obtain ⟨j, hj, hjl, ho⟩ := give_at p1 hsp
                have hjf := (begI_some hj).2
                have hmi : ms.getD i (mv0, false) = ms[i] := by simp [hil]
                have hmo' := (mayM_parts hmo).2.2.2.2.2
                have hx0 := p4.1 _ (List.getElem_mem hil)
                have hcut0 : ms[i].2 = false := by revert hst2; rw [hcut]; cases ms[i].2 <;> simp
                have hpw := p4.2
                rw [List.pairwise_iff_getElem] at hpw
                refine ⟨mayMt_iff.2 ⟨hmo, p2, p3, fun x hx => ?_, ?_⟩, ⟨by simp only; omega, by simp only; omega⟩, ⟨by simp only; omega, by simp only; omega⟩, fun x hx => .inl ?_⟩
                · obtain ⟨a, ha, rfl⟩ := List.getElem_of_mem hx
                  rw [List.length_set] at ha
                  rw [List.getElem_set]
                  simp only [hmi]
                  split
                  · rename_i hia
                    obtain ⟨h1, h2, h3⟩ := hx0
                    obtain ⟨r, hr1, hr2, hr3, hr4, hr5⟩ := (atMa_iff q6).1 h3
                    have hr : r = rs.getD j rg0 := from_one q6 hr1 (getD_mem hjl) (by rw [hr2, hjf, hst1])
                    refine ⟨h1, h2, (atMa_iff hmo').2 ⟨_, by rw [ho]; exact List.mem_set hjl _, ?_, ?_, ?_, ?_⟩⟩
                    · simp only; rw [← hr]; exact hr2
                    · simp only; rw [← hr]; exact hr3
                    · simp only; rw [← hr]; exact hr4
                    · simp only [if_true]; rw [hst1]
                  · rename_i hia
                    obtain ⟨h1, h2, h3⟩ := p4.1 _ (List.getElem_mem ha)
                    refine ⟨h1, h2, (atMa_iff hmo').2 ?_⟩
                    obtain ⟨r, hr1, hr2⟩ := (atMa_iff q6).1 h3
                    refine ⟨r, ?_, hr2⟩
                    have hne : r ≠ rs.getD j rg0 := fun he => by
                      have hff : ms[a].1.2.1 = ms[i].1.2.1 := by rw [← hr2.1, he, hjf, hst1]
                      rcases Nat.lt_trichotomy a i with h7 | h7 | h7
                      · exact (hpw a i ha hil h7).2 hff
                      · exact hia h7.symm
                      · exact (hpw i a hil ha h7).2 hff.symm
                    rw [ho, List.set_eq_take_append_cons_drop, if_pos hjl]
                    rcases mem_parts hjl hr1 hne with h9 | h9
                    · exact List.mem_append_left _ h9
                    · exact List.mem_append_right _ (List.mem_cons_of_mem _ h9)
                · rw [List.pairwise_iff_getElem]
                  intro a b ha hb hab
                  rw [List.length_set] at ha hb
                  have h1 := hpw a b ha hb hab
                  have e1 : ∀ (t : Nat) (ht : t < ms.length), ((ms.set i ((ms.getD i (mv0, false)).1, true))[t]'(by rw [List.length_set]; exact ht)).1 = ms[t].1 := fun t ht => by
                    rw [List.getElem_set]; split
                    · rename_i h9; subst h9; simp only [hmi]
                    · rfl
                  rw [e1 a ha, e1 b hb]; exact h1
                · obtain ⟨a, ha, rfl⟩ := List.getElem_of_mem hx
                  refine ⟨(ms.set i ((ms.getD i (mv0, false)).1, true))[a]'(by rw [List.length_set]; exact ha), List.getElem_mem _, ?_⟩
                  rw [List.getElem_set]; split
                  · rename_i h9; subst h9; simp only [hmi]
                  · rfl
              · rename_i hg0; exact absurd h0 (by
                  intro h9
                  obtain ⟨_, h8⟩ := Prod.mk.inj h
                  exact hg0 h8)
            · rename_i hcut
              obtain ⟨rfl, -⟩ := Prod.mk.inj h
              have hk10 : k = 10 := by
                rcases hk9 with rfl | rfl
                · simp at hcut
                · rfl
              subst hk10
              have hcut0 : ms[i].2 = true := by revert hst2; cases ms[i].2 <;> simp
              refine ⟨mayMt_iff.2 ⟨p1, p2, p3, fun x hx => p4.1 x (List.mem_of_mem_eraseIdx hx), p4.2.sublist (List.eraseIdx_sublist _ _)⟩, ⟨by simp only; omega, by simp only; omega⟩, ⟨by simp only; omega, by simp only; omega⟩, fun x hx => ?_⟩
              obtain ⟨a, ha, rfl⟩ := List.getElem_of_mem hx
              by_cases hai : a = i
              · subst hai; exact .inr ⟨rfl, hcut0, by rw [← hst1]⟩
              · exact .inl ⟨ms[a], List.mem_eraseIdx_iff_getElem.2 ⟨a, ha, hai, rfl⟩, rfl⟩
          · cases h
  · rename_i h0; obtain ⟨_, h9⟩ := Prod.mk.inj h; exact absurd h9 h0
end Go.Vc
