/- A part of the proof: steps and lemmas for the walks through the given program. -/
import Derived.Test.YtifnkmflmgnfjaaJEx
namespace Go.Vc
set_option linter.unusedVariables false
set_option linter.unusedSimpArgs false
theorem jdg_of {l : List EvV} {R : List JdV} (h : rdE l 0 [] = (R, l.length)) (h1 : R.length ≤ 32) (h2 : (R.filter opnJ).length ≤ 6) :
    jdg l = match seekU R (dk R.length 0) [] with | none => (0, 9, [], []) | some (o, m) => (0, 0, o, m) := by
  have hu : seekU R (dk R.length 0) [] = seek R R.length (List.replicate R.length false) [] := by
    rw [← dk_zero]
    unfold seekU
    rw [show unD (List.replicate R.length false) = R.length by simp [unD]]
  unfold jdg
  rw [h, hu]
  simp only []
  rw [if_neg zo, if_neg zo]
  cases seek R R.length (List.replicate R.length false) [] <;> rfl
theorem rsQ_mem {Q : List QV} {s : Nat} {x : JdV} (h : x ∈ rsQ s Q) : 0 ≤ x.2.2.1 := by
  obtain ⟨i, hi⟩ := List.mem_iff_getElem?.1 h
  rw [rsQ_get] at hi
  cases hq : Q[i]? with
  | none => rw [hq] at hi; cases hi
  | some q =>
    rw [hq] at hi
    simp only [Option.map_some, Option.some.injEq] at hi
    subst hi
    simp only []
    omega
theorem rsQ_opn (Q : List QV) (s : Nat) : (rsQ s Q).filter opnJ = [] := by
  refine List.filter_eq_nil_iff.2 fun x hx => ?_
  have := rsQ_mem hx
  simp [opnJ, show ¬ x.2.2.1 < 0 by omega]
theorem rowQ (Q : List QV) {T : List JdV} (hl : T.length ≤ 1) (hT : ∀ x ∈ T, x.2.1 = ((2 * Q.length : Nat) : Int) ∧ x.2.2.1 < 0) : RowR (rsQ 0 Q ++ T) Q.length := by
  have hlo : ∀ (j : Nat) (x : JdV), (rsQ 0 Q ++ T)[j]? = some x → (j < Q.length ∧ x.2.1 = ((2 * j : Nat) : Int) ∧ x.2.2.1 = ((2 * j + 1 : Nat) : Int)) ∨ (j = Q.length ∧ x.2.1 = ((2 * j : Nat) : Int) ∧ x.2.2.1 < 0) := by
    intro j x hx
    rw [List.getElem?_append, rsQ_len] at hx
    split at hx
    · rename_i hj
      rw [rsQ_get, List.getElem?_eq_getElem hj] at hx
      simp only [Option.map_some, Option.some.injEq, Nat.zero_add] at hx
      subst hx
      exact .inl ⟨hj, rfl, rfl⟩
    · rename_i hj
      have h1 := (List.getElem?_eq_some_iff.1 hx).1
      have h2 := hT x (List.mem_of_getElem? hx)
      obtain rfl : j = Q.length := by omega
      exact .inr ⟨rfl, h2⟩
  refine ⟨by rw [List.length_append, rsQ_len]; omega, fun j x hx => ?_, fun j x hx hj => ?_, fun j x hx hj => ?_⟩
  · rcases hlo j x hx with h | h
    · exact h.2.1
    · exact h.2.1
  · rcases hlo j x hx with h | h
    · exact h.2.2
    · omega
  · rcases hlo j x hx with h | h
    · omega
    · exact h.2.2
theorem rsQ_at {Q : List QV} {T : List JdV} {i : Nat} {q : QV} (h : Q[i]? = some q) : ∃ x, (rsQ 0 Q ++ T)[0 + i]? = some x ∧ x.1.2.2 = q.2.1 ∧ x.2.2.2 = q.2.2 := by
  refine ⟨((q.1, ((0 + i : Nat) : Int) + 1, q.2.1), ((2 * (0 + i) : Nat) : Int), ((2 * (0 + i) + 1 : Nat) : Int), q.2.2), ?_, rfl, rfl⟩
  rw [Nat.zero_add, List.getElem?_append_left (by rw [rsQ_len]; exact (List.getElem?_eq_some_iff.1 h).1), rsQ_get, h, Nat.zero_add]
  rfl
theorem rd_own {Q : List QV} (hok : ∀ q ∈ Q, okQ q) (hl : Q.length ≤ 32) : rdE (evQ 0 Q) 0 [] = (rsQ 0 Q, (evQ 0 Q).length) := by
  have h := rdE_evQ Q 0 [] [] (fun x hx => by cases hx) zo hok
  rw [List.append_nil, Nat.mul_zero, List.nil_append] at h
  rw [h, evQ_len, Nat.zero_add]; rfl
theorem jdg_own {Q : List QV} (hok : ∀ q ∈ Q, okQ q) (hown : ownQ [] Q) (hl : Q.length ≤ 32) : jdg (evQ 0 Q) = (0, 0, List.range' 0 Q.length, mQ [] Q) := by
  have hr := rowQ Q (T := []) (by simp) (fun x hx => by cases hx)
  have hs := seek_own hr Q 0 [] zo rfl hok hown (fun i q h => rsQ_at h)
  rw [List.append_nil] at hs
  rw [jdg_of (rd_own hok hl) (by rw [rsQ_len]; exact hl) (by rw [rsQ_opn]; simp), hs]
theorem jdg_wo {Q : List QV} {c : Int} {a : AkV} (hok : ∀ q ∈ Q, okQ q) (hown : ownQ [] Q) (hl : Q.length ≤ 31) (h1 : 1 ≤ c) (h2 : c ≤ 4) (ha : mayAk a = true) : (jdg (evQ 0 Q ++ [(1, c, (Q.length : Int) + 1, a, an0)])).2.1 = 0 := by
  obtain ⟨x, hx⟩ : ∃ x : JdV, x = ((c, (Q.length : Int) + 1, a), ((2 * Q.length : Nat) : Int), -1, an0) := ⟨_, rfl⟩
  have hrd : rdE (evQ 0 Q ++ [(1, c, (Q.length : Int) + 1, a, an0)]) 0 [] = (rsQ 0 Q ++ [x], (evQ 0 Q ++ [(1, c, (Q.length : Int) + 1, a, an0)]).length) := by
    have h := rdE_evQ Q 0 [] [(1, c, (Q.length : Int) + 1, a, an0)] (fun x hx => by cases hx) zo hok
    rw [Nat.mul_zero, List.nil_append, Nat.zero_add] at h
    rw [h, rdE, step_ask (fun y hy => ?_) zo h1 h2 ha]
    · simp only []
      rw [rdE, hx, List.length_append, evQ_len]
      rfl
    · obtain ⟨i, hi⟩ := List.mem_iff_getElem?.1 hy
      rw [rsQ_get] at hi
      cases hq : Q[i]? with
      | none => rw [hq] at hi; cases hi
      | some q =>
        have := (List.getElem?_eq_some_iff.1 hq).1
        rw [hq] at hi
        simp only [Option.map_some, Option.some.injEq] at hi
        subst hi
        simp only []
        omega
  have hr := rowQ Q (T := [x]) (by simp) (fun y hy => by obtain rfl := List.mem_singleton.1 hy; rw [hx]; exact ⟨rfl, by simp⟩)
  have hs := seek_own hr Q 0 [] zo rfl hok hown (fun i q h => rsQ_at h)
  rw [jdg_of hrd (by rw [List.length_append, rsQ_len]; simp; omega) (by
    rw [List.filter_append, rsQ_opn, List.nil_append]
    have := List.length_filter_le opnJ [x]
    simp only [List.length_cons, List.length_nil] at this
    omega), hs]
theorem jdg_bad {Q : List QV} {t : Nat} {q : QV} (hok : ∀ q ∈ Q, okQ q) (hown : ownQ [] Q) (hl : Q.length ≤ 32) (ht : Q[t]? = some q) : (jdg ((evQ 0 Q).set (2 * t + 1) (2, q.1, (t : Int) + 1, ak0, (10, [], [])))).2.1 = 9 := by
  have hset := evQ_set Q 0 t q (10, [], []) ht
  rw [Nat.zero_add] at hset
  rw [hset]
  obtain ⟨Q', hQ'⟩ : ∃ Q', Q' = Q.set t (q.1, q.2.1, ((10, [], []) : AnV)) := ⟨_, rfl⟩
  have htl := (List.getElem?_eq_some_iff.1 ht).1
  have hq := hok q (List.mem_of_getElem? ht)
  have hok' : ∀ y ∈ Q', okQ y := by
    intro y hy
    rw [hQ'] at hy
    rcases List.mem_or_eq_of_mem_set hy with h | h
    · exact hok y h
    · subst h; exact ⟨hq.1, hq.2.1, hq.2.2.1, mayAn_none 10 zq zq⟩
  have hl' : Q'.length = Q.length := by rw [hQ', List.length_set]
  have hr := rowQ Q' (T := []) (by simp) (fun x hx => by cases hx)
  have hs := seek_bad hr (a := q.2.1) hq.2.2.1 (Q.take t) 0 [] (by rw [List.length_take]; omega) rfl (fun y hy => hok y (List.mem_of_mem_take hy)) (by rw [← List.take_append_drop t Q] at hown; exact ownQ_app _ _ _ hown) (fun i y h => by
      rw [List.getElem?_take] at h
      split at h
      · rename_i hi
        refine rsQ_at (q := y) ?_
        rw [hQ', List.getElem?_set_ne zo]; exact h
      · cases h) (by
      have h1 : Q'[t]? = some (q.1, q.2.1, ((10, [], []) : AnV)) := by rw [hQ', List.getElem?_set_self htl]
      obtain ⟨x, h2, h3, h4⟩ := rsQ_at (T := []) h1
      refine ⟨x, ?_, h3, h4⟩
      rw [List.length_take, Nat.min_eq_left zo]; exact h2)
  rw [List.append_nil] at hs
  rw [← hQ', jdg_of (rd_own hok' zo) (by rw [rsQ_len]; omega) (by rw [rsQ_opn]; simp), hs]
theorem jdg_tk {Q : List QV} (hok : ∀ q ∈ Q, okQ q) (hown : ownQ [] Q) (hl : Q.length ≤ 32) (hne : 0 < Q.length) : (jdg ((evQ 0 Q).take (2 * Q.length - 1))).2.1 = 0 := by
  obtain ⟨Q0, q, rfl⟩ : ∃ Q0 q, Q = Q0 ++ [q] := ⟨Q.dropLast, Q.getLast (by intro h; subst h; simp at hne), (List.dropLast_concat_getLast _).symm⟩
  have hq := hok q (by simp)
  have h : (evQ 0 (Q0 ++ [q])).take (2 * (Q0 ++ [q]).length - 1) = evQ 0 Q0 ++ [(1, q.1, (Q0.length : Int) + 1, q.2.1, an0)] := by
    rw [evQ_app, List.take_append, evQ_len, List.take_of_length_le (by rw [evQ_len, List.length_append, List.length_singleton]; omega)]
    rw [show 2 * (Q0 ++ [q]).length - 1 - 2 * Q0.length = 1 by rw [List.length_append, List.length_singleton]; omega, Nat.zero_add]
    rfl
  rw [h]
  exact jdg_wo (fun y hy => hok y (by simp [hy])) (ownQ_app _ _ _ hown) (by rw [List.length_append, List.length_singleton] at hl; omega) hq.1 hq.2.1 hq.2.2.1
theorem evQ_get : ∀ (Q : List QV) (s t : Nat) (q : QV), Q[t]? = some q → (evQ s Q)[2 * t + 1]? = some (2, q.1, ((s + t : Nat) : Int) + 1, ak0, q.2.2)
  | [], s, t, q, h => by simp at h
  | p :: l, s, 0, q, h => by
    obtain rfl : p = q := by simpa using h
    simp [evQ]
  | p :: l, s, t + 1, q, h => by
    have ih := evQ_get l (s + 1) t q (by simpa using h)
    simp only [evQ, show 2 * (t + 1) + 1 = (2 * t + 1) + 1 + 1 by omega, List.getElem?_cons_succ]
    rw [ih, show s + 1 + t = s + (t + 1) by omega]
theorem evQ_snoc (Q : List QV) (q : QV) : evQ 0 (Q ++ [q]) = evQ 0 Q ++ [(1, q.1, (Q.length : Int) + 1, q.2.1, an0), (2, q.1, (Q.length : Int) + 1, ak0, q.2.2)] := by
  rw [evQ_app, Nat.zero_add]; rfl
theorem and3 (x : Int) : ∃ z : Int, 0 ≤ z ∧ z ≤ 3 ∧ IntKind.i64.wrap ((BitVec.ofInt IntKind.i64.bits x &&& BitVec.ofInt IntKind.i64.bits 3).toNat) = z := by
  obtain ⟨n, hn⟩ : ∃ n, n = (BitVec.ofInt IntKind.i64.bits x &&& BitVec.ofInt IntKind.i64.bits 3).toNat := ⟨_, rfl⟩
  have hlt : n ≤ 3 := by
    rw [hn, BitVec.toNat_and]
    have h3 : (BitVec.ofInt IntKind.i64.bits 3).toNat = 3 := by decide
    rw [h3]
    exact Nat.and_le_right
  rw [← hn]
  exact ⟨(n : Int), by omega, by omega, wr_i64 zo zo⟩
end Go.Vc
