/- A part of the proof: steps and lemmas for the walks through the given program. -/
import Derived.Test.YteehplloacefmaaM14
namespace Go.Proofs.Yteehplloacefmaa
open Go.Vc
set_option linter.unusedVariables false
set_option linter.unusedSimpArgs false
set_option maxRecDepth 100000

theorem hasN_eq {e : Int} {rs : List RgV} {k : List UInt8} {i : Nat} (hm : mayM (e, rs) = true) (hi : findO (e, rs) (hasB k) = some i) : hasN rs k rs.length = i := by
  obtain ⟨j, hj, hjl, hone⟩ := one_has hm k
  rw [hi] at hj
  obtain rfl : i = j := Option.some.inj hj
  simp only at hjl hone
  obtain ⟨_, _, _, _, _, h6⟩ := mayM_parts hm
  simp only at h6
  have hpw := mayL_pw rs h6
  rw [List.pairwise_iff_getElem] at hpw
  have hlk := (mayL_iff rs).1 h6
  have hgd : ∀ j (hj : j < rs.length), (rs.getD j rg0) = rs[j] := fun j hj => by simp [hj]
  have hri : hasR rs[i] k = true := by rw [hone i rs[i] (List.getElem?_eq_getElem hjl)]; simp
  have hle : ¬ k < rs[i].1 := by
    intro h; simp only [hasR] at hri; simp [h] at hri
  have hgt : ∀ j (hj : j < rs.length), i < j → k < rs[j].1 := by
    intro j hj hij
    have h1 := hlk i rs[i] (List.getElem?_eq_getElem hjl)
    have hn : rs[i + 1]? = some (rs[i + 1]'zo) := List.getElem?_eq_getElem zo
    rw [hn] at h1
    obtain ⟨_, q2, _, _, q5⟩ := h1
    have h2 : k < rs[i].2.1 := by simp only [hasR] at hri; rw [q2] at hri; simp at hri; exact hri.2
    rw [q5] at h2
    rcases Nat.lt_or_ge (i + 1) j with h | h
    · exact lb_le_trans h2 (hpw (i + 1) j zo hj h)
    · obtain rfl : j = i + 1 := by omega
      exact h2
  have key : ∀ n, i < n → n ≤ rs.length → hasN rs k n = i := by
    intro n
    induction n with
    | zero => intro h; omega
    | succ n ih =>
      intro h1 h2
      rw [hasN_step, hgd n zo]
      rcases Nat.lt_or_ge i n with h | h
      · rw [if_pos (hgt n zo h)]; exact ih h zo
      · obtain rfl : i = n := by omega
        rw [if_neg hle]
  exact key rs.length hjl (Nat.le_refl _)
theorem lastN_eq {p q : MaV → Bool} {l : List MaV} (hpq : ∀ x, p x = q x) (hu : ∀ (i j : Nat) (x y : MaV), l[i]? = some x → l[j]? = some y → p x = true → p y = true → i = j) : lastN p l l.length = l.findIdx? q := by
  obtain rfl : p = q := funext hpq
  rcases hf : l.findIdx? p with _ | i
  · rw [List.findIdx?_eq_none_iff] at hf
    rcases hl : lastN p l l.length with _ | j
    · rfl
    · obtain ⟨x, hx, hp⟩ := lastN_at hl
      rw [hf x (List.mem_of_getElem? hx)] at hp; cases hp
  · rw [List.findIdx?_eq_some_iff_getElem] at hf
    obtain ⟨hi, hp, _⟩ := hf
    have key : ∀ n, i < n → ∃ j, lastN p l n = some j := by
      intro n
      induction n with
      | zero => intro h; omega
      | succ n ih =>
        intro h
        rw [lastN]
        split
        · exact ⟨n, rfl⟩
        · rename_i hn
          rcases Nat.lt_or_ge i n with h1 | h1
          · exact ih h1
          · obtain rfl : i = n := by omega
            rw [List.getElem?_eq_getElem hi] at hn
            simp [hp] at hn
    obtain ⟨j, hj⟩ := key l.length hi
    obtain ⟨y, hy, hpy⟩ := lastN_at hj
    rw [hj, hu i j l[i] y (List.getElem?_eq_getElem hi) hy hp hpy]
theorem findO_begI {e : Int} {rs : List RgV} {k : List UInt8} (hm : mayM (e, rs) = true) : findO (e, rs) (begB k) = begI rs k := by rw [findO, if_pos hm]; rfl
theorem take_map_succ {α β : Type} {f : α → β} {l : List α} {i : Nat} {d : α} (h : i < l.length) : (l.map f).take (i + 1) = (l.take i).map f ++ [f (l.getD i d)] := by
  rw [List.take_add_one, List.map_take, List.getElem?_map, List.getElem?_eq_getElem h]; simp [h]
theorem rDo_eq {s : MtV} {c : CmV} (hs : mayMt s = true) (hc : mayCm c = true) (hk : 6 ≤ c.1) : (rDoMt s c).2 = (stMt s c).2 ∧ ((stMt s c).2 = 0 → (rDoMt s c).1 = (stMt s c).1) := by
  obtain ⟨⟨e, rs⟩, n, ms⟩ := s
  obtain ⟨k, rq, mv, en, an, key, g⟩ := c
  obtain ⟨p1, p2, p3, p4⟩ := mayMt_iff.1 hs
  simp only at p1 p2 p3 p4 hk
  obtain ⟨q1, q2, q3, q4, q5, q6⟩ := mayM_parts p1
  simp only at q1 q2 q3 q4 q5 q6
  obtain ⟨_, k10, _, kmv, _, kky, kmg⟩ := mayCm_k hc
  unfold rDoMt stMt
  simp only
  by_cases h6 : k = 6
  · rw [if_pos h6, if_pos h6]
    have hky := kky (.inl h6)
    have hkb : keyB key = true := by simp only [keyB, Bool.and_eq_true, decide_eq_true_eq]; exact hky
    obtain ⟨i, hi, hil, _⟩ := one_has p1 key
    simp only at hil
    have hN := hasN_eq p1 hi
    have hrg : rgAt rs (findO (e, rs) (hasB key)) = rs.getD i rg0 := by rw [hi]; rfl
    rw [hN, hrg]
    by_cases hmv : mvgB ms (rs.getD i rg0).1 = true
    · rw [if_pos hmv, if_pos hmv]; exact ⟨rfl, fun h => by cases h⟩
    · rw [if_neg hmv, if_neg hmv]
      have hsp : splitM (e, rs) key = if (begI rs key).isSome = true then (mp0, 7) else nextM e (rs.take i ++ [((rs.getD i rg0).1, key, true, (rs.getD i rg0).2.2.2), (key, (rs.getD i rg0).2.1, (rs.getD i rg0).2.2.1, (rs.getD i rg0).2.2.2)] ++ rs.drop (i + 1)) := by
        rw [splitM, if_neg (by rw [p1, hkb]; simp), hi, findO_begI p1]
      rcases hb : begI rs key with _ | j
      · rw [hb] at hsp
        simp only [Option.isSome_none, Bool.false_eq_true, if_false] at hsp
        rw [if_neg (by simp [optI])]
        have hlen : (rs.take i ++ [((rs.getD i rg0).1, key, true, (rs.getD i rg0).2.2.2), (key, (rs.getD i rg0).2.1, (rs.getD i rg0).2.2.1, (rs.getD i rg0).2.2.2)] ++ rs.drop (i + 1)).length = rs.length + 1 := by
          simp; omega
        by_cases h5 : rs.length = 16 ∨ e = 2147483647
        · rw [if_pos h5, hsp, nextM, if_pos (by rw [hlen]; omega)]
          exact ⟨rfl, fun h => by cases h⟩
        · rw [if_neg h5]
          have hsp2 : splitM (e, rs) key = ((e + 1, rs.take i ++ [((rs.getD i rg0).1, key, true, (rs.getD i rg0).2.2.2), (key, (rs.getD i rg0).2.1, (rs.getD i rg0).2.2.1, (rs.getD i rg0).2.2.2)] ++ rs.drop (i + 1)), 0) := by
            rw [hsp, nextM, if_neg (by rw [hlen]; omega)]
          have hmay := (mayM_parts (split_may p1 hsp2).1).2.2.2.2.2
          rw [hsp2]
          refine ⟨rfl, fun _ => ?_⟩
          have hbl := bldR_may hmay
          simp only [List.map_append, List.map_cons, List.map_nil] at hbl
          rw [take_map_succ (d := rg0) hil, take_map_succ (d := rg0) hil]
          simp only [← List.map_drop, List.append_assoc, List.cons_append, List.nil_append] at hbl ⊢
          rw [hbl]
      · rw [hb] at hsp
        simp only [Option.isSome_some, if_true] at hsp
        rw [if_pos (by show (0 : Int) ≤ (j : Int); omega), hsp]
        exact ⟨rfl, fun h => by cases h⟩
  · rw [if_neg h6, if_neg h6]
    by_cases h7 : k = 7
    · rw [if_pos h7, if_pos h7]
      have hky := kky (.inr h7)
      have hkb : keyB key = true := by simp only [keyB, Bool.and_eq_true, decide_eq_true_eq]; exact hky
      rcases hb : begI rs key with _ | _ | i
      · have hun : unionM (e, rs) key = (mp0, 6) := by rw [unionM, if_neg (by rw [p1, hkb]; simp), findO_begI p1, hb]
        rw [hun]; exact ⟨rfl, fun h => by cases h⟩
      · obtain ⟨h0, h1⟩ := begI_some hb
        have : (rs.getD 0 rg0).1 = [] := by
          cases rs with
          | nil => simp at h0
          | cons a b => simpa using q5
        rw [this] at h1
        rw [← h1] at hky
        simp at hky
      · obtain ⟨hil, _⟩ := begI_some hb
        have hun : unionM (e, rs) key = if (rs.getD (i + 1) rg0).2.2.2 ≠ (rs.getD i rg0).2.2.2 then (mp0, 9) else nextM e (rs.take i ++ [((rs.getD i rg0).1, (rs.getD (i + 1) rg0).2.1, (rs.getD (i + 1) rg0).2.2.1, (rs.getD i rg0).2.2.2)] ++ rs.drop (i + 1 + 1)) := by
          rw [unionM, if_neg (by rw [p1, hkb]; simp), findO_begI p1, hb]; rfl
        simp only
        by_cases hmv : (mvgB ms key || mvgB ms (rs.getD i rg0).1) = true
        · rw [if_pos hmv, if_pos (by rw [hmv]; rfl)]; exact ⟨rfl, fun h => by cases h⟩
        · rw [if_neg hmv]
          by_cases hgr : (rs.getD (i + 1) rg0).2.2.2 = (rs.getD i rg0).2.2.2
          · rw [if_neg (by rw [Bool.not_eq_true] at hmv; rw [hmv, decide_eq_true hgr]; simp)]
            rw [if_neg (by simpa using hgr)] at hun
            have hlen : (rs.take i ++ [((rs.getD i rg0).1, (rs.getD (i + 1) rg0).2.1, (rs.getD (i + 1) rg0).2.2.1, (rs.getD i rg0).2.2.2)] ++ rs.drop (i + 1 + 1)).length = rs.length - 1 := by
              simp; omega
            by_cases h5 : e = 2147483647
            · rw [if_pos h5, hun, nextM, if_pos (.inl h5)]; exact ⟨rfl, fun h => by cases h⟩
            · rw [if_neg h5]
              have hun2 : unionM (e, rs) key = ((e + 1, rs.take i ++ [((rs.getD i rg0).1, (rs.getD (i + 1) rg0).2.1, (rs.getD (i + 1) rg0).2.2.1, (rs.getD i rg0).2.2.2)] ++ rs.drop (i + 1 + 1)), 0) := by
                rw [hun, nextM, if_neg (by rw [hlen]; omega)]
              have hmay := (mayM_parts (union_may p1 hun2).1).2.2.2.2.2
              rw [hun2]
              refine ⟨rfl, fun _ => ?_⟩
              have hbl := bldR_may hmay
              simp only [List.map_append, List.map_cons, List.map_nil] at hbl
              rw [take_map_succ (d := rg0) (by omega : i < rs.length), take_map_succ (d := rg0) (by omega : i < rs.length)]
              simp only [← List.map_drop, List.append_assoc, List.cons_append, List.nil_append] at hbl ⊢
              rw [hbl]
          · rw [if_pos (by rw [decide_eq_false hgr]; simp)]
            rw [if_pos (by simpa using hgr)] at hun
            rw [hun]; exact ⟨rfl, fun h => by cases h⟩
    · rw [if_neg h7, if_neg h7]
      by_cases h8 : k = 8
      · rw [if_pos h8, if_pos h8]
        unfold begMt
        simp only
        rcases hb : begI rs key with _ | i
        · exact ⟨rfl, fun _ => rfl⟩
        · simp only
          by_cases hmv : (mvgB ms key || decide ((rs.getD i rg0).2.2.2 = g)) = true
          · rw [if_pos hmv, if_pos hmv]; exact ⟨rfl, fun _ => rfl⟩
          · rw [if_neg hmv, if_neg hmv]
            by_cases h5 : n = 2147483647
            · rw [if_pos h5, if_pos zo]; exact ⟨rfl, fun _ => rfl⟩
            · rw [if_neg h5, if_neg zo]; exact ⟨rfl, fun _ => rfl⟩
      · rw [if_neg h8, if_neg h8, if_pos zo]
        have hmm := kmv zo
        have hpq : ∀ x : MaV, (decide (x.1 = mv) && (x.2 == decide (k = 10))) = stepB (decide (k = 9)) mv x := by
          intro x
          have : decide (k = 10) = !decide (k = 9) := by rw [← decide_not]; exact decide_eq_decide.2 zo
          rw [stepB, this]; cases x.2 <;> cases decide (k = 9) <;> rfl
        have hpw := p4.2
        rw [List.pairwise_iff_getElem] at hpw
        have hl := lastN_eq (l := ms) hpq (fun i j x y hx hy hpx hpy => by
          simp only [Bool.and_eq_true, decide_eq_true_eq] at hpx hpy
          obtain ⟨hi, rfl⟩ := List.getElem?_eq_some_iff.1 hx
          obtain ⟨hj, rfl⟩ := List.getElem?_eq_some_iff.1 hy
          rcases Nat.lt_trichotomy i j with h | h | h
          · have := (hpw i j hi hj h).1; rw [hpx.1, hpy.1] at this; omega
          · exact h
          · have := (hpw j i hj hi h).1; rw [hpx.1, hpy.1] at this; omega)
        rw [hl]
        unfold goMt
        simp only
        rcases hf : ms.findIdx? (stepB (decide (k = 9)) mv) with _ | i
        · exact ⟨rfl, fun _ => rfl⟩
        · simp only
          by_cases h10 : k = 10
          · rw [if_pos h10, if_neg (by simp; omega)]
            exact ⟨rfl, fun _ => by rw [List.eraseIdx_eq_take_drop_succ]⟩
          · have h9 : k = 9 := by omega
            rw [if_neg h10]
            simp only [decide_eq_true h9, if_true]
            rw [List.findIdx?_eq_some_iff_getElem] at hf
            obtain ⟨hil, hst, _⟩ := hf
            simp only [stepB, Bool.and_eq_true, decide_eq_true_eq, Bool.not_eq_true', decide_eq_false_iff_not] at hst
            obtain ⟨hx1, hx2⟩ := hst
            have hcut : ms[i].2 = false := by rw [decide_eq_true h9] at hx2; revert hx2; cases ms[i].2 <;> simp
            have hat := (p4.1 ms[i] (List.getElem_mem hil)).2.2
            obtain ⟨num, f, t, ee, og, ng⟩ := mv
            obtain ⟨g1, g2, g3, g4, g5, g6, g7, g8⟩ := mayMv_b hmm
            have hne : ¬ og = ng := by intro h; subst h; simp [mayMv] at hmm
            unfold atMa at hat
            rw [hx1, hcut] at hat
            simp only at hat
            rcases hb : begI rs f with _ | j
            · rw [hb] at hat; cases hat
            · rw [hb] at hat
              simp only [Bool.false_eq_true, if_false, Bool.and_eq_true, decide_eq_true_eq] at hat
              obtain ⟨hjl, _⟩ := begI_some hb
              have hgv : giveM (e, rs) f ng = nextM e (rs.set j ((rs.getD j rg0).1, (rs.getD j rg0).2.1, (rs.getD j rg0).2.2.1, ng)) := by
                have e1 : grpB ng = true := by simp [grpB]; omega
                rw [giveM, if_neg (by rw [p1, e1, decide_eq_true g3]; simp), findO_begI p1, hb]
                simp only
                rw [if_neg (by rw [hat.2]; exact hne)]
              by_cases h5 : e = 2147483647
              · have hgv5 : giveM (e, rs) f ng = (mp0, 5) := by rw [hgv, nextM, if_pos (Or.inl h5)]
                rw [if_pos h5, hgv5]
                exact ⟨by simp, fun h => by simp at h⟩
              · rw [if_neg h5]
                have hgv2 : giveM (e, rs) f ng = ((e + 1, rs.set j ((rs.getD j rg0).1, (rs.getD j rg0).2.1, (rs.getD j rg0).2.2.1, ng)), 0) := by
                  rw [hgv, nextM, if_neg (by simp; omega)]
                have hmay := (mayM_parts (give_may p1 hgv2).1).2.2.2.2.2
                rw [hgv2]
                refine ⟨rfl, fun _ => ?_⟩
                have hbl := bldR_may hmay
                simp only [List.map_set] at hbl
                have hfs : (rs.map (·.1)).set j (rs.getD j rg0).1 = rs.map (·.1) := by
                  have : (rs.map (·.1))[j]? = some (rs.getD j rg0).1 := by rw [List.getElem?_map, getD_at hjl]; rfl
                  exact List.ext_getElem? fun m => by
                    rw [List.getElem?_set]; split
                    · rename_i h; subst h; rw [if_pos (by simpa using hjl), this]
                    · rfl
                rw [hfs] at hbl
                have hjn : (optI (some j)).toNat = j := by show ((j : Int)).toNat = j; omega
                simp only [hjn, hbl, if_true]
end Go.Proofs.Yteehplloacefmaa
