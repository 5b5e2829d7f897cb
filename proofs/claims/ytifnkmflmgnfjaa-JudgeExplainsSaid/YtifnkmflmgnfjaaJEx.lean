/- A part of the proof: steps and lemmas for the walks through the given program. -/
import Derived.Test.YtifnkmflmgnfjaaJa
namespace Go.Vc
set_option linter.unusedVariables false
set_option linter.unusedSimpArgs false
/-! ### the history that a map itself made -/
/-- client, ask, answer -/
abbrev QV := Int × AkV × AnV
def evQ : Nat → List QV → List EvV
  | _, [] => []
  | s, q :: l => (1, q.1, (s : Int) + 1, q.2.1, an0) :: (2, q.1, (s : Int) + 1, ak0, q.2.2) :: evQ (s + 1) l
def rsQ : Nat → List QV → List JdV
  | _, [] => []
  | s, q :: l => ((q.1, (s : Int) + 1, q.2.1), ((2 * s : Nat) : Int), ((2 * s + 1 : Nat) : Int), q.2.2) :: rsQ (s + 1) l
def okQ (q : QV) : Prop := 1 ≤ q.1 ∧ q.1 ≤ 4 ∧ mayAk q.2.1 = true ∧ mayAn q.2.2 = true
def mQ : MapV → List QV → MapV
  | m, [] => m
  | m, q :: l => mQ (doM m q.2.1).1 l
def ownQ : MapV → List QV → Prop
  | _, [] => True
  | m, q :: l => q.2.2 = (doM m q.2.1).2 ∧ ownQ (doM m q.2.1).1 l
theorem evQ_len : ∀ (Q : List QV) (s : Nat), (evQ s Q).length = 2 * Q.length
  | [], _ => rfl
  | q :: l, s => by simp only [evQ, List.length_cons, evQ_len l]; omega
theorem rsQ_len : ∀ (Q : List QV) (s : Nat), (rsQ s Q).length = Q.length
  | [], _ => rfl
  | q :: l, s => by simp only [rsQ, List.length_cons, rsQ_len l]
theorem evQ_app : ∀ (Q Q' : List QV) (s : Nat), evQ s (Q ++ Q') = evQ s Q ++ evQ (s + Q.length) Q'
  | [], Q', s => by simp [evQ]
  | q :: l, Q', s => by
    simp only [evQ, List.cons_append, evQ_app l Q' (s + 1), List.length_cons]
    rw [show s + 1 + l.length = s + (l.length + 1) by omega]
theorem rsQ_get : ∀ (Q : List QV) (s i : Nat), (rsQ s Q)[i]? = Q[i]?.map fun q => ((q.1, ((s + i : Nat) : Int) + 1, q.2.1), ((2 * (s + i) : Nat) : Int), ((2 * (s + i) + 1 : Nat) : Int), q.2.2)
  | [], s, i => by simp [rsQ]
  | q :: l, s, 0 => by simp [rsQ]
  | q :: l, s, i + 1 => by
    simp only [rsQ, List.getElem?_cons_succ, rsQ_get l (s + 1) i]
    rw [show s + 1 + i = s + (i + 1) by omega]
theorem evQ_set : ∀ (Q : List QV) (s t : Nat) (q : QV) (y : AnV), Q[t]? = some q → (evQ s Q).set (2 * t + 1) (2, q.1, ((s + t : Nat) : Int) + 1, ak0, y) = evQ s (Q.set t (q.1, q.2.1, y))
  | [], s, t, q, y, h => by simp at h
  | p :: l, s, 0, q, y, h => by
    obtain rfl : p = q := by simpa using h
    simp [evQ]
  | p :: l, s, t + 1, q, y, h => by
    have ih := evQ_set l (s + 1) t q y (by simpa using h)
    simp only [evQ, List.set_cons_succ, show 2 * (t + 1) + 1 = (2 * t + 1) + 1 + 1 by omega]
    rw [← ih, show s + 1 + t = s + (t + 1) by omega]
theorem mQ_snoc : ∀ (Q : List QV) (m : MapV) (q : QV), mQ m (Q ++ [q]) = (doM (mQ m Q) q.2.1).1
  | [], _, _ => rfl
  | p :: l, m, q => by simp only [List.cons_append, mQ]; exact mQ_snoc l _ q
theorem ownQ_snoc : ∀ (Q : List QV) (m : MapV) (q : QV), ownQ m Q → q.2.2 = (doM (mQ m Q) q.2.1).2 → ownQ m (Q ++ [q])
  | [], m, q, _, h => ⟨h, trivial⟩
  | p :: l, m, q, h, h2 => ⟨h.1, ownQ_snoc l _ q h.2 h2⟩
theorem ownQ_app : ∀ (Q Q' : List QV) (m : MapV), ownQ m (Q ++ Q') → ownQ m Q
  | [], _, _, _ => trivial
  | p :: l, Q', m, h => ⟨h.1, ownQ_app l Q' _ h.2⟩
theorem mQ_may : ∀ (Q : List QV) (m : MapV), mayMp m = true → (∀ q ∈ Q, okQ q) → mayMp (mQ m Q) = true
  | [], m, h, _ => h
  | p :: l, m, h, h2 => mQ_may l _ (doM_may h (h2 p (by simp)).2.2.1) fun q hq => h2 q (by simp [hq])
theorem step_ask {out : List JdV} {s i : Nat} {c : Int} {a : AkV} (hn : ∀ x ∈ out, x.1.2.1 ≤ (s : Int)) (hs : s ≤ 1000) (h1 : 1 ≤ c) (h2 : c ≤ 4) (ha : mayAk a = true) :
    evStep out i (1, c, (s : Int) + 1, a, an0) = some (out ++ [((c, (s : Int) + 1, a), (i : Int), -1, an0)]) := by
  have hw : whoE (1, c, (s : Int) + 1, a, an0) = true := by
    simp only [whoE, nmB, Bool.and_eq_true, decide_eq_true_eq]
    omega
  unfold evStep
  rw [if_pos rfl]
  simp only [hw, ha, decide_true, Bool.true_and]
  cases h : lastJ out c with
  | none => rfl
  | some n =>
    obtain ⟨x, hx, _⟩ := lastJ_get h
    have h3 := hn x (List.mem_of_getElem? hx)
    simp only [hx]
    rw [if_pos (decide_eq_true zo)]
theorem step_ans {out : List JdV} {s i i0 : Nat} {c : Int} {a : AkV} {y : AnV} (hs : s ≤ 1000) (h1 : 1 ≤ c) (h2 : c ≤ 4) (hy : mayAn y = true) :
    evStep (out ++ [((c, (s : Int) + 1, a), (i0 : Int), -1, an0)]) i (2, c, (s : Int) + 1, ak0, y) = some (out ++ [((c, (s : Int) + 1, a), (i0 : Int), (i : Int), y)]) := by
  have hw : whoE (2, c, (s : Int) + 1, ak0, y) = true := by
    simp only [whoE, nmB, Bool.and_eq_true, decide_eq_true_eq]
    omega
  unfold evStep
  rw [if_neg (by simp), if_pos rfl]
  simp only [hw, hy, decide_true, Bool.true_and, if_true, lastJ_snoc]
  simp
theorem rdE_evQ : ∀ (Q : List QV) (s : Nat) (out : List JdV) (T : List EvV), (∀ x ∈ out, x.1.2.1 ≤ (s : Int)) → s + Q.length ≤ 1000 → (∀ q ∈ Q, okQ q) → rdE (evQ s Q ++ T) (2 * s) out = rdE T (2 * (s + Q.length)) (out ++ rsQ s Q)
  | [], s, out, T, _, _, _ => by simp [evQ, rsQ]
  | q :: l, s, out, T, hn, hs, hq => by
    simp only [List.length_cons] at hs
    obtain ⟨h1, h2, h3, h4⟩ := hq q (by simp)
    simp only [evQ, rsQ, List.cons_append]
    rw [rdE, step_ask hn zo h1 h2 h3]
    simp only []
    rw [rdE, step_ans zo h1 h2 h4]
    simp only []
    have ih := rdE_evQ l (s + 1) (out ++ [((q.1, (s : Int) + 1, q.2.1), ((2 * s : Nat) : Int), ((2 * s + 1 : Nat) : Int), q.2.2)]) T (by
      intro x hx
      rcases List.mem_append.1 hx with h | h
      · have := hn x h; omega
      · obtain rfl := List.mem_singleton.1 h
        simp) zo (fun x hx => hq x (by simp [hx]))
    rw [show 2 * s + 1 + 1 = 2 * (s + 1) by omega, ih, List.length_cons, show s + 1 + l.length = s + (l.length + 1) by omega, List.append_assoc]
    rfl
/-! ### the order -/
def dk (n k : Nat) : List Bool := (List.range n).map fun j => decide (j < k)
theorem dk_len (n k : Nat) : (dk n k).length = n := by simp [dk]
theorem dk_get {n k j : Nat} (hj : j < n) : (dk n k).getD j false = decide (j < k) := by
  rw [List.getD_eq_getElem?_getD]; simp [dk, hj]
theorem dk_set {n k : Nat} (hk : k < n) : (dk n k).set k true = dk n (k + 1) := by
  refine List.ext_getElem? fun j => ?_
  rw [List.getElem?_set, dk_len]
  simp only [dk, List.getElem?_map]
  by_cases hjn : j < n
  · rw [List.getElem?_range hjn]
    by_cases h : k = j
    · subst h; simp [hk]
    · simp only [if_neg h, Option.map_some, Option.some.injEq, decide_eq_decide]
      omega
  · rw [List.getElem?_eq_none (by simp; omega)]
    split
    · omega
    · rfl
theorem dk_zero (n : Nat) : List.replicate n false = dk n 0 := by
  refine List.ext_getElem? fun j => ?_
  simp only [dk, List.getElem?_map, List.getElem?_replicate]
  split
  · rename_i h; rw [List.getElem?_range h]; rfl
  · rename_i h; rw [List.getElem?_eq_none (by simp; omega)]; rfl
/-- the first p requests are answered, one behind the other; the others are not -/
structure RowR (R : List JdV) (p : Nat) : Prop where
  le : p ≤ R.length
  asked : ∀ j x, R[j]? = some x → x.2.1 = ((2 * j : Nat) : Int)
  ans : ∀ j x, R[j]? = some x → j < p → x.2.2.1 = ((2 * j + 1 : Nat) : Int)
  opn : ∀ j x, R[j]? = some x → p ≤ j → x.2.2.1 < 0
theorem RowR.whl_no {R : List JdV} {p k : Nat} (h : RowR R p) (hk : k < p) : ¬ whlJ R (dk R.length k) = true := by
  intro hw
  have hlt : k < R.length := Nat.lt_of_lt_of_le hk h.le
  unfold whlJ at hw
  have h1 := List.all_eq_true.1 hw k (List.mem_range.2 hlt)
  have hx : R[k]? = some R[k] := List.getElem?_eq_getElem hlt
  have h2 := h.ans k _ hx hk
  rw [hx, dk_get hlt] at h1
  have h3 : decide (0 ≤ R[k].2.2.1) = true := decide_eq_true zo
  simp [undJ, h3] at h1
theorem RowR.whl_yes {R : List JdV} {p : Nat} (h : RowR R p) : whlJ R (dk R.length p) = true := by
  unfold whlJ
  refine List.all_eq_true.2 fun i hi => ?_
  have hlt := List.mem_range.1 hi
  have hx : R[i]? = some R[i] := List.getElem?_eq_getElem hlt
  rw [hx, dk_get hlt]
  rcases Nat.lt_or_ge i p with h2 | h2
  · simp [undJ, h2]
  · have := h.opn i _ hx h2
    have h3 : decide (0 ≤ R[i].2.2.1) = false := decide_eq_false zo
    simp [undJ, h3]
theorem RowR.may_at {R : List JdV} {p k : Nat} (h : RowR R p) (hk : k < p) : mayJ R (dk R.length k) k = true := by
  have hlt : k < R.length := Nat.lt_of_lt_of_le hk h.le
  have hx : R[k]? = some R[k] := List.getElem?_eq_getElem hlt
  unfold mayJ
  rw [hx, dk_get hlt]
  simp only []
  have h1 := h.ans k _ hx hk
  have h2 := h.asked k _ hx
  rw [show decide (k < k) = false from decide_eq_false zo, show decide (R[k].2.2.1 < 0) = false from decide_eq_false zo]
  simp only [Bool.not_false, Bool.true_and, Bool.true_or]
  refine List.all_eq_true.2 fun j hj => ?_
  have hjl := List.mem_range.1 hj
  have hy : R[j]? = some R[j] := List.getElem?_eq_getElem hjl
  unfold blkJ
  rw [hy, dk_get hjl]
  simp only []
  rcases Nat.lt_or_ge j k with h3 | h3
  · simp [undJ, h3]
  · rcases Nat.lt_or_ge j p with h4 | h4
    · have := h.ans j _ hy h4
      rw [show decide (R[j].2.2.1 < R[k].2.1) = false from decide_eq_false zo]; simp
    · have := h.opn j _ hy h4
      rw [show undJ R[j] (decide (j < k)) = false by simp [undJ]; omega]; simp
theorem RowR.may_lt {R : List JdV} {k j : Nat} (hj : j < k) (hl : j < R.length) : mayJ R (dk R.length k) j = false := by
  unfold mayJ
  rw [List.getElem?_eq_getElem hl, dk_get hl]
  simp [hj]
theorem RowR.may_gt {R : List JdV} {p k j : Nat} (h : RowR R p) (hk : k < p) (hj : k < j) (hl : j < R.length) : mayJ R (dk R.length k) j = false := by
  have hlt : k < R.length := by omega
  have hx : R[k]? = some R[k] := List.getElem?_eq_getElem hlt
  have hy : R[j]? = some R[j] := List.getElem?_eq_getElem hl
  have h1 := h.ans k _ hx hk
  have h2 := h.asked j _ hy
  rw [Bool.eq_false_iff]
  intro hm
  unfold mayJ at hm
  rw [hy] at hm
  simp only [Bool.and_eq_true] at hm
  have h3 := List.all_eq_true.1 hm.2 k (List.mem_range.2 hlt)
  unfold blkJ at h3
  rw [hx, dk_get hlt] at h3
  simp only [] at h3
  rw [show decide (R[k].2.2.1 < R[j].2.1) = true from decide_eq_true zo, show undJ R[k] (decide (k < k)) = true by simp [undJ]; omega] at h3
  simp at h3
theorem stepN {R : List JdV} {d : List Bool} {m : MapV} {j : Nat} (h : mayJ R d j = false) : stepU R d m j = none := by
  unfold stepU
  split
  · rfl
  · rename_i x hx
    have : canJ R d m j = false := by unfold canJ; rw [hx]; simp [h]
    rw [this]; rfl
/-- own answers are explained, in their order -/
theorem seek_own {R : List JdV} {p : Nat} (h : RowR R p) : ∀ (Q : List QV) (k : Nat) (m : MapV), k + Q.length = p → mayMp m = true → (∀ q ∈ Q, okQ q) → ownQ m Q → (∀ i q, Q[i]? = some q → ∃ x, R[k + i]? = some x ∧ x.1.2.2 = q.2.1 ∧ x.2.2.2 = q.2.2) → seekU R (dk R.length k) m = some (List.range' k Q.length, mQ m Q)
  | [], k, m, hk, hm, _, _, _ => by
    simp only [List.length_nil, Nat.add_zero] at hk
    subst hk
    rw [seekU_eq (dk_len _ _), if_pos h.whl_yes]; rfl
  | q :: Q, k, m, hk, hm, hok, hown, hg => by
    simp only [List.length_cons] at hk
    have hkp : k < p := by omega
    obtain ⟨x, hx, hxa, hxy⟩ := hg 0 q rfl
    have hoq := hok q (by simp)
    have ih := seek_own h Q (k + 1) (doM m q.2.1).1 zo (doM_may hm hoq.2.2.1) (fun y hy => hok y (by simp [hy])) hown.2 (fun i y hy => by
      have := hg (i + 1) y (by simpa using hy)
      rwa [show k + (i + 1) = k + 1 + i by omega] at this)
    rw [seekU_eq (dk_len _ _), if_neg (h.whl_no hkp)]
    refine findR_some _ (i := k) (fun j hj => stepN (RowR.may_lt hj (by have := h.le; omega))) ?_ (by have := h.le; omega)
    unfold stepU
    rw [Nat.add_zero] at hx
    rw [hx]
    have hc : canJ R (dk R.length k) m k = true := by
      unfold canJ
      rw [hx]
      simp only [h.may_at hkp, hxa, hxy, hown.1, fitsM_own hm hoq.2.2.1, Bool.or_true, Bool.and_true]
    simp only [hc, if_true]
    rw [dk_set (by have := h.le; omega), hxa, ih]
    rfl
/-- the error 10 in the place of an answer is not -/
theorem seek_bad {R : List JdV} {p : Nat} (h : RowR R p) {a : AkV} (ha : mayAk a = true) : ∀ (Q : List QV) (k : Nat) (m : MapV), k + Q.length < p → mayMp m = true → (∀ q ∈ Q, okQ q) → ownQ m Q → (∀ i q, Q[i]? = some q → ∃ x, R[k + i]? = some x ∧ x.1.2.2 = q.2.1 ∧ x.2.2.2 = q.2.2) → (∃ x, R[k + Q.length]? = some x ∧ x.1.2.2 = a ∧ x.2.2.2 = (10, [], [])) → seekU R (dk R.length k) m = none
  | [], k, m, hk, hm, _, _, _, hb => by
    obtain ⟨x, hx, hxa, hxy⟩ := hb
    simp only [List.length_nil, Nat.add_zero] at hk hx
    rw [seekU_eq (dk_len _ _), if_neg (h.whl_no hk)]
    refine findR_none fun j hj => ?_
    rcases Nat.lt_trichotomy j k with h1 | h1 | h1
    · exact stepN (RowR.may_lt h1 hj)
    · subst h1
      unfold stepU
      rw [hx]
      have h2 := h.ans j x hx hk
      have hc : canJ R (dk R.length j) m j = false := by
        unfold canJ
        rw [hx]
        simp only [hxa, hxy, fitsM_bad hm ha, show decide (x.2.2.1 < 0) = false from decide_eq_false zo, Bool.or_false, Bool.and_false]
      simp [hc]
    · exact stepN (h.may_gt hk h1 hj)
  | q :: Q, k, m, hk, hm, hok, hown, hg, hb => by
    simp only [List.length_cons] at hk hb
    have hkp : k < p := by omega
    obtain ⟨x, hx, hxa, hxy⟩ := hg 0 q rfl
    have hoq := hok q (by simp)
    have ih := seek_bad h ha Q (k + 1) (doM m q.2.1).1 zo (doM_may hm hoq.2.2.1) (fun y hy => hok y (by simp [hy])) hown.2 (fun i y hy => by
      have := hg (i + 1) y (by simpa using hy)
      rwa [show k + (i + 1) = k + 1 + i by omega] at this) (by rwa [show k + 1 + Q.length = k + (Q.length + 1) by omega])
    rw [seekU_eq (dk_len _ _), if_neg (h.whl_no hkp)]
    rw [Nat.add_zero] at hx
    refine findR_none fun j hj => ?_
    rcases Nat.lt_trichotomy j k with h1 | h1 | h1
    · exact stepN (RowR.may_lt h1 hj)
    · subst h1
      unfold stepU
      rw [hx]
      simp only []
      split
      · rw [dk_set hj, hxa, ih]; rfl
      · rfl
    · exact stepN (h.may_gt hkp h1 hj)
end Go.Vc
