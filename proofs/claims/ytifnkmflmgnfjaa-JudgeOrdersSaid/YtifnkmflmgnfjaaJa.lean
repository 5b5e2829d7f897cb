/- A part of the proof: steps and lemmas for the walks through the given program. -/
import Derived.Test.YtifnkmflmgnfjaaCz
namespace Go.Vc
set_option linter.unusedVariables false
set_option linter.unusedSimpArgs false
/-! ### maps -/
abbrev MapV := List PrV
def okP (p : PrV) : Bool := decide (1 ≤ p.1.length) && decide (p.1.length ≤ 24) && decide (p.2.length ≤ 40)
/-- may the pair at i stand behind those ahead of it? -/
def behM (l : MapV) (i : Nat) : Bool := match l[i]? with
  | none => false
  | some p => okP p && (match i with | 0 => true | j + 1 => match l[j]? with | none => true | some q => decide (q.1 < p.1))
def mayMp (l : MapV) : Bool := (List.range l.length).all (behM l)
theorem mayMp_iff {l : MapV} : mayMp l = true ↔ ∀ i, i < l.length → behM l i = true := by
  simp [mayMp]
theorem mayMp_no {l : MapV} {i : Nat} (hi : i < l.length) (h : behM l i = false) : mayMp l = false := by
  rw [Bool.eq_false_iff]; intro h2
  have := mayMp_iff.1 h2 i hi
  rw [h] at this; cases this
theorem mayMp_ok {l : MapV} (h : mayMp l = true) : ∀ p ∈ l, okP p = true := by
  intro p hp
  obtain ⟨i, hi, rfl⟩ := List.mem_iff_getElem.1 hp
  have := mayMp_iff.1 h i hi
  rw [behM, List.getElem?_eq_getElem hi] at this
  simp only [Bool.and_eq_true] at this
  exact this.1
theorem mayMp_step {l : MapV} (h : mayMp l = true) {i : Nat} {p q : PrV} (hq : l[i]? = some q) (hp : l[i + 1]? = some p) : q.1 < p.1 := by
  have := mayMp_iff.1 h (i + 1) (List.getElem?_eq_some_iff.1 hp).1
  rw [behM, hp] at this
  simp only [Bool.and_eq_true, hq, decide_eq_true_eq] at this
  exact this.2
theorem mayMp_lt {l : MapV} (h : mayMp l = true) : ∀ (d i : Nat) {p q : PrV}, l[i]? = some q → l[i + d + 1]? = some p → q.1 < p.1
  | 0, i, p, q, hq, hp => mayMp_step h hq hp
  | d + 1, i, p, q, hq, hp => by
    obtain ⟨x, hx⟩ : ∃ x, l[i + d + 1]? = some x := ⟨_, List.getElem?_eq_getElem (by have := (List.getElem?_eq_some_iff.1 hp).1; omega)⟩
    exact lb_trans (mayMp_lt h d i hq hx) (mayMp_step h hx hp)
theorem mayMp_of {l : MapV} (h1 : ∀ p ∈ l, okP p = true) (h2 : l.Pairwise (fun a b => a.1 < b.1)) : mayMp l = true := by
  refine mayMp_iff.2 fun i hi => ?_
  rw [behM, List.getElem?_eq_getElem hi]
  simp only [h1 _ (List.getElem_mem hi), Bool.true_and]
  match i, hi with
  | 0, _ => rfl
  | j + 1, hi =>
    have hj : j < l.length := by omega
    simp only [List.getElem?_eq_getElem hj]
    exact decide_eq_true (List.pairwise_iff_getElem.1 h2 j (j + 1) hj hi zo)
theorem mayMp_pw {l : MapV} (h : mayMp l = true) : l.Pairwise (fun a b => a.1 < b.1) := by
  refine List.pairwise_iff_getElem.2 fun i j hi hj hij => ?_
  exact mayMp_lt h (j - i - 1) i (List.getElem?_eq_getElem hi) (by rw [show i + (j - i - 1) + 1 = j by omega]; exact List.getElem?_eq_getElem hj)
/-! ### places -/
def ltK (k : List UInt8) (p : PrV) : Bool := decide (p.1 < k)
def posM (m : MapV) (k : List UInt8) : Nat := (m.takeWhile (ltK k)).length
def hasM (m : MapV) (k : List UInt8) : Bool := match m[posM m k]? with | some p => decide (p.1 = k) | none => false
theorem posM_le (m : MapV) (k : List UInt8) : posM m k ≤ m.length := by
  unfold posM
  induction m with
  | nil => simp
  | cons p m ih => rw [List.takeWhile_cons]; split <;> simp <;> omega
theorem posM_lt {k : List UInt8} : ∀ {m : MapV} {i : Nat} {p : PrV}, i < posM m k → m[i]? = some p → p.1 < k
  | [], i, p, hi, hp => by simp at hp
  | q :: m, i, p, hi, hp => by
    unfold posM at hi
    rw [List.takeWhile_cons] at hi
    split at hi
    · rename_i hq
      cases i with
      | zero => simp at hp; subst hp; exact of_decide_eq_true hq
      | succ i =>
        rw [List.getElem?_cons_succ] at hp
        exact posM_lt (m := m) (by simp only [List.length_cons] at hi; unfold posM; omega) hp
    · simp at hi
theorem posM_at {k : List UInt8} : ∀ {m : MapV} {p : PrV}, m[posM m k]? = some p → ¬ p.1 < k
  | [], p, hp => by simp at hp
  | q :: m, p, hp => by
    unfold posM at hp
    rw [List.takeWhile_cons] at hp
    split at hp
    · rename_i hq
      simp only [List.length_cons, List.getElem?_cons_succ] at hp
      exact posM_at (m := m) hp
    · rename_i hq
      simp at hp; subst hp
      exact fun h => hq (decide_eq_true h)
/-- the place is where what is ahead is less, and what is there, if it is, is not -/
theorem posM_of {m : MapV} {k : List UInt8} {i : Nat} (hi : i ≤ m.length) (h1 : ∀ j p, j < i → m[j]? = some p → p.1 < k) (h2 : ∀ p, m[i]? = some p → ¬ p.1 < k) : posM m k = i := by
  rcases Nat.lt_trichotomy (posM m k) i with h | h | h
  · obtain ⟨p, hp⟩ : ∃ p, m[posM m k]? = some p := ⟨_, List.getElem?_eq_getElem zo⟩
    exact (posM_at hp (h1 _ _ h hp)).elim
  · exact h
  · have := posM_le m k
    obtain ⟨p, hp⟩ : ∃ p, m[i]? = some p := ⟨_, List.getElem?_eq_getElem zo⟩
    exact (h2 p hp (posM_lt h hp)).elim
theorem posM_ge {m : MapV} (hm : mayMp m = true) {k : List UInt8} {i : Nat} {p : PrV} (hi : posM m k ≤ i) (hp : m[i]? = some p) : ¬ p.1 < k := by
  obtain ⟨q, hq⟩ : ∃ q, m[posM m k]? = some q := ⟨_, List.getElem?_eq_getElem (by have := (List.getElem?_eq_some_iff.1 hp).1; omega)⟩
  rcases Nat.lt_or_ge (posM m k) i with h | h
  · have h3 := mayMp_lt hm (i - posM m k - 1) (posM m k) hq (by rw [show posM m k + (i - posM m k - 1) + 1 = i by omega]; exact hp)
    exact fun h4 => posM_at hq (lb_trans h3 h4)
  · obtain rfl : i = posM m k := by omega
    exact posM_at hp
def setM (m : MapV) (k v : List UInt8) : MapV := m.take (posM m k) ++ (k, v) :: m.drop (if hasM m k then posM m k + 1 else posM m k)
def delM (m : MapV) (k : List UInt8) : MapV := m.take (posM m k) ++ m.drop (posM m k + 1)
/-- the pairs from a key on, below another one, if there is one -/
def hiM (m : MapV) (t : List UInt8) : Nat := if t.isEmpty then m.length else posM m t
def partM (m : MapV) (f t : List UInt8) : MapV := (m.take (max (posM m f) (hiM m t))).drop (posM m f)
def inM (f t : List UInt8) (p : PrV) : Bool := !decide (p.1 < f) && (t.isEmpty || decide (p.1 < t))
def fromM (m : MapV) (f t : List UInt8) : MapV := m.filter (inM f t)
theorem partM_from {m : MapV} (hm : mayMp m = true) (f t : List UInt8) : partM m f t = fromM m f t := by
  have hlf := posM_le m f
  have hlh : hiM m t ≤ m.length := by unfold hiM; split; exact Nat.le_refl _; exact posM_le m t
  have hx : max (posM m f) (hiM m t) ≤ m.length := by omega
  unfold partM fromM
  conv => rhs; rw [← List.take_append_drop (max (posM m f) (hiM m t)) m]
  rw [List.filter_append]
  have h2 : (m.drop (max (posM m f) (hiM m t))).filter (inM f t) = [] := by
    refine List.filter_eq_nil_iff.2 fun p hp => ?_
    obtain ⟨i, hi, rfl⟩ := List.mem_iff_getElem.1 hp
    rw [List.getElem_drop]
    simp only [List.length_drop] at hi
    unfold inM
    unfold hiM at hi ⊢
    split at hi
    · omega
    · rename_i ht
      rw [Bool.not_eq_true] at ht
      simp only [ht, if_false, Bool.false_eq_true, Bool.false_or, Bool.and_eq_true, decide_eq_true_eq, not_and]
      exact fun _ => posM_ge hm (i := max (posM m f) (posM m t) + i) zo (List.getElem?_eq_getElem zo)
  rw [h2, List.append_nil]
  conv => rhs; rw [← List.take_append_drop (posM m f) (m.take (max (posM m f) (hiM m t)))]
  rw [List.filter_append]
  have h3 : ((m.take (max (posM m f) (hiM m t))).take (posM m f)).filter (inM f t) = [] := by
    refine List.filter_eq_nil_iff.2 fun p hp => ?_
    obtain ⟨i, hi, rfl⟩ := List.mem_iff_getElem.1 hp
    simp only [List.length_take] at hi
    rw [List.getElem_take, List.getElem_take]
    have := posM_lt (m := m) (k := f) (i := i) zo (List.getElem?_eq_getElem zo)
    simp [inM, this]
  rw [h3, List.nil_append]
  refine (List.filter_eq_self.2 fun p hp => ?_).symm
  obtain ⟨i, hi, rfl⟩ := List.mem_iff_getElem.1 hp
  simp only [List.length_drop, List.length_take] at hi
  rw [List.getElem_drop, List.getElem_take]
  have h4 := posM_ge hm (k := f) (i := posM m f + i) zo (List.getElem?_eq_getElem zo)
  unfold inM
  rw [decide_eq_false h4]
  cases ht : t.isEmpty with
  | true => rfl
  | false =>
    have hh : hiM m t = posM m t := by unfold hiM; rw [ht]; rfl
    have h5 := posM_lt (m := m) (k := t) (i := posM m f + i) zo (List.getElem?_eq_getElem zo)
    simp [h5]
/-! ### what is asked -/
/-- is a swap refused? -/
def misM (m : MapV) (key was : List UInt8) (no : Bool) : Bool := (no == hasM m key) || (hasM m key && (match m[posM m key]? with | some p => !decide (p.2 = was) | none => true))
def doM (m : MapV) : AkV → MapV × AnV
  | (k, key, to, val, was, no, most) =>
    if k = 1 then (if hasM m key then (m, (0, (m.drop (posM m key)).take 1, [])) else (m, (6, [], [])))
    else if k = 2 then (setM m key val, an0)
    else if k = 3 then (if hasM m key then (delM m key, an0) else (m, (6, [], [])))
    else if k = 4 then (if misM m key was no then (m, (12, [], [])) else (setM m key val, an0))
    else (if ((partM m key to).length : Int) ≤ most then (m, (0, partM m key to, []))
      else (m, (0, (partM m key to).take most.toNat, (match (partM m key to)[most.toNat - 1]? with | some p => p.1 ++ [0] | none => []))))
def fitsM (m : MapV) (a : AkV) (x : AnV) : Bool :=
  mayMp m && mayAk a && (decide (x = (doM m a).2) ||
    (decide (a.1 = 5) && decide (x.1 = 0) &&
      (if x.2.2.isEmpty then decide (((partM m a.2.1 a.2.2.1).length : Int) ≤ a.2.2.2.2.2.2) && decide (x.2.1 = partM m a.2.1 a.2.2.1)
       else decide (x.2.2.length ≤ 25) && decide (a.2.1 < x.2.2) && (a.2.2.1.isEmpty || decide (x.2.2 < a.2.2.1)) &&
         decide (((partM m a.2.1 x.2.2).length : Int) ≤ a.2.2.2.2.2.2) && decide (x.2.1 = partM m a.2.1 x.2.2))))
/-! ### events -/
/-- kind, client, number, ask, answer -/
abbrev EvV := Int × Int × Int × AkV × AnV
/-- request, where asked, where answered, answer -/
abbrev JdV := RqV × Int × Int × AnV
/-- the last place of a client -/
def lastC (c : Int) (cl : List Int) : Option Nat := cl.zipIdx.foldl (fun a p => if p.1 = c then some p.2 else a) none
def lastJ (out : List JdV) (c : Int) : Option Nat := lastC c (out.map (·.1.1))
theorem lastC_snoc (c d : Int) (cl : List Int) : lastC c (cl ++ [d]) = if d = c then some cl.length else lastC c cl := by
  simp [lastC, List.zipIdx_append]
theorem lastJ_snoc (out : List JdV) (x : JdV) (c : Int) : lastJ (out ++ [x]) c = if x.1.1 = c then some out.length else lastJ out c := by
  simp [lastJ, lastC_snoc]
theorem lastC_get {c : Int} : ∀ (n : Nat) {cl : List Int} {i : Nat}, cl.length = n → lastC c cl = some i → cl[i]? = some c
  | 0, cl, i, hn, h => by
    obtain rfl := List.eq_nil_of_length_eq_zero hn
    simp [lastC] at h
  | n + 1, cl, i, hn, h => by
    obtain ⟨l, d, rfl⟩ : ∃ l d, cl = l ++ [d] := by
      refine ⟨cl.dropLast, cl.getLast (by intro h; subst h; simp at hn), (List.dropLast_concat_getLast _).symm⟩
    rw [lastC_snoc] at h
    simp only [List.length_append, List.length_cons, List.length_nil] at hn
    split at h
    · rename_i hd
      cases h
      simp [hd]
    · have := lastC_get n zo h
      rw [List.getElem?_append_left (List.getElem?_eq_some_iff.1 this).1]; exact this
theorem lastJ_get {out : List JdV} {c : Int} {i : Nat} (h : lastJ out c = some i) : ∃ x, out[i]? = some x ∧ x.1.1 = c := by
  have := lastC_get _ rfl h
  rw [List.getElem?_map] at this
  cases ho : out[i]? with
  | none => rw [ho] at this; cases this
  | some x => rw [ho] at this; exact ⟨x, rfl, by simpa using this⟩
theorem lastJ_set {out : List JdV} {i : Nat} {x y : JdV} (hx : out[i]? = some x) (hc : y.1.1 = x.1.1) (c : Int) : lastJ (out.set i y) c = lastJ out c := by
  unfold lastJ
  congr 1
  rw [List.map_set, hc]
  refine List.ext_getElem? fun j => ?_
  rw [List.getElem?_set]
  split
  · rename_i hj; subst hj
    obtain ⟨hlt, rfl⟩ := List.getElem?_eq_some_iff.1 hx
    simp [hlt]
  · rfl
def whoE (e : EvV) : Bool := decide (1 ≤ e.2.1) && decide (e.2.1 ≤ 4) && nmB e.2.2.1
def evStep (out : List JdV) (i : Nat) (e : EvV) : Option (List JdV) :=
  if e.1 = 1 then
    (if whoE e && mayAk e.2.2.2.1 && decide (e.2.2.2.2 = an0) && (match lastJ out e.2.1 with | none => true | some n => match out[n]? with | some x => decide (x.1.2.1 < e.2.2.1) | none => false)
     then some (out ++ [((e.2.1, e.2.2.1, e.2.2.2.1), (i : Int), -1, an0)]) else none)
  else if e.1 = 2 then
    (if whoE e && mayAn e.2.2.2.2 && decide (e.2.2.2.1 = ak0)
     then (match lastJ out e.2.1 with
       | none => none
       | some n => match out[n]? with
         | some x => if x.1.2.1 = e.2.2.1 ∧ x.2.2.1 < 0 then some (out.set n (x.1, x.2.1, (i : Int), e.2.2.2.2)) else none
         | none => none)
     else none)
  else none
def rdE : List EvV → Nat → List JdV → List JdV × Nat
  | [], i, out => (out, i)
  | e :: l, i, out => match evStep out i e with
    | none => (out, i)
    | some o => rdE l (i + 1) o
/-! ### the search -/
def opnJ (x : JdV) : Bool := decide (x.2.2.1 < 0) && !(decide (x.1.2.2.1 = 1) || decide (x.1.2.2.1 = 5))
def undJ (x : JdV) (b : Bool) : Bool := decide (0 ≤ x.2.2.1) && !b
def whlJ (r : List JdV) (d : List Bool) : Bool := (List.range r.length).all fun i => match r[i]? with | some x => !undJ x (d.getD i false) | none => true
def blkJ (r : List JdV) (d : List Bool) (a : Int) (k : Nat) : Bool := match r[k]? with | some x => undJ x (d.getD k false) && decide (x.2.2.1 < a) | none => false
def mayJ (r : List JdV) (d : List Bool) (i : Nat) : Bool := match r[i]? with
  | none => false
  | some x => !(d.getD i false) && (!decide (x.2.2.1 < 0) || opnJ x) && (List.range r.length).all (fun k => !blkJ r d x.2.1 k)
def seek (r : List JdV) : Nat → List Bool → MapV → Option (List Nat × MapV)
  | n, d, m => if whlJ r d then some ([], m) else match n with
    | 0 => none
    | n + 1 => (List.range r.length).findSome? fun i => match r[i]? with
      | none => none
      | some x => if mayJ r d i && (decide (x.2.2.1 < 0) || fitsM m x.1.2.2 x.2.2.2) then (seek r n (d.set i true) (doM m x.1.2.2).1).map (fun q => (i :: q.1, q.2)) else none
def jdg (l : List EvV) : Int × Int × List Nat × MapV :=
  if (rdE l 0 []).2 < l.length then (((rdE l 0 []).2 : Int), 2, [], [])
  else if 32 < (rdE l 0 []).1.length ∨ 6 < ((rdE l 0 []).1.filter opnJ).length then (0, 3, [], [])
  else match seek (rdE l 0 []).1 (rdE l 0 []).1.length (List.replicate (rdE l 0 []).1.length false) [] with
    | none => (0, 9, [], [])
    | some (o, m) => (0, 0, o, m)
end Go.Vc

namespace Go.Vc
set_option linter.unusedVariables false
set_option linter.unusedSimpArgs false
theorem lb_ge_lt {x y z : List UInt8} (h : ¬ y < x) (k : y < z) : x < z := by
  rcases lb_not h with h | h
  · exact lb_trans h k
  · exact h ▸ k
theorem okP_mk {k v : List UInt8} (h1 : keyB k = true) (h2 : v.length ≤ 40) : okP (k, v) = true := by
  simp only [keyB, Bool.and_eq_true, decide_eq_true_eq] at h1
  simp only [okP, Bool.and_eq_true, decide_eq_true_eq]
  exact ⟨⟨by omega, by omega⟩, h2⟩
theorem posM_gt {m : MapV} (hm : mayMp m = true) {k : List UInt8} {i : Nat} {p : PrV} (hi : (if hasM m k then posM m k + 1 else posM m k) ≤ i) (hp : m[i]? = some p) : k < p.1 := by
  obtain ⟨q, hq⟩ : ∃ q, m[posM m k]? = some q := ⟨_, List.getElem?_eq_getElem (by have := (List.getElem?_eq_some_iff.1 hp).1; split at hi <;> omega)⟩
  have hq2 := posM_at hq
  cases hh : hasM m k with
  | true =>
    rw [hh, if_pos rfl] at hi
    have := mayMp_lt hm (i - posM m k - 1) (posM m k) hq (by rw [show posM m k + (i - posM m k - 1) + 1 = i by omega]; exact hp)
    exact lb_ge_lt hq2 this
  | false =>
    rw [hh, if_neg zq] at hi
    rcases Nat.lt_or_ge (posM m k) i with h | h
    · have := mayMp_lt hm (i - posM m k - 1) (posM m k) hq (by rw [show posM m k + (i - posM m k - 1) + 1 = i by omega]; exact hp)
      exact lb_ge_lt hq2 this
    · obtain rfl : i = posM m k := by omega
      rw [hq] at hp; cases hp
      unfold hasM at hh
      rw [hq] at hh
      rcases lb_not hq2 with h | h
      · exact h
      · exact (of_decide_eq_false hh h.symm).elim
theorem setM_may {m : MapV} (hm : mayMp m = true) {k v : List UInt8} (h1 : keyB k = true) (h2 : v.length ≤ 40) : mayMp (setM m k v) = true := by
  refine mayMp_of ?_ ?_
  · intro p hp
    unfold setM at hp
    rcases List.mem_append.1 hp with h | h
    · exact mayMp_ok hm p (List.mem_of_mem_take h)
    · rcases List.mem_cons.1 h with rfl | h
      · exact okP_mk h1 h2
      · exact mayMp_ok hm p (List.mem_of_mem_drop h)
  · unfold setM
    have hpw := mayMp_pw hm
    refine List.pairwise_append.2 ⟨hpw.sublist (List.take_sublist _ _), List.pairwise_cons.2 ⟨?_, hpw.sublist (List.drop_sublist _ _)⟩, ?_⟩
    · intro p hp
      obtain ⟨i, hi, rfl⟩ := List.mem_iff_getElem.1 hp
      rw [List.getElem_drop]
      simp only [List.length_drop] at hi
      exact posM_gt hm (k := k) (i := (if hasM m k then posM m k + 1 else posM m k) + i) zo (List.getElem?_eq_getElem zo)
    · intro q hq p hp
      obtain ⟨j, hj, rfl⟩ := List.mem_iff_getElem.1 hq
      simp only [List.length_take] at hj
      rw [List.getElem_take]
      have hjk := posM_lt (m := m) (k := k) (i := j) zo (List.getElem?_eq_getElem zo)
      rcases List.mem_cons.1 hp with rfl | hp
      · exact hjk
      · obtain ⟨i, hi, rfl⟩ := List.mem_iff_getElem.1 hp
        rw [List.getElem_drop]
        simp only [List.length_drop] at hi
        exact lb_trans hjk (posM_gt hm (k := k) (i := (if hasM m k then posM m k + 1 else posM m k) + i) zo (List.getElem?_eq_getElem zo))
theorem delM_may {m : MapV} (hm : mayMp m = true) (k : List UInt8) : mayMp (delM m k) = true := by
  have hsub : List.Sublist (delM m k) m := by
    unfold delM
    conv => rhs; rw [← List.take_append_drop (posM m k) m]
    refine List.Sublist.append (List.Sublist.refl _) ?_
    rw [show m.drop (posM m k + 1) = (m.drop (posM m k)).drop 1 by rw [List.drop_drop]]
    exact List.drop_sublist _ _
  exact mayMp_of (fun p hp => mayMp_ok hm p (hsub.subset hp)) ((mayMp_pw hm).sublist hsub)
theorem partM_sub {m : MapV} {f t : List UInt8} : List.Sublist (partM m f t) m := (List.drop_sublist _ _).trans (List.take_sublist _ _)
theorem doM_may {m : MapV} (hm : mayMp m = true) {a : AkV} (ha : mayAk a = true) : mayMp (doM m a).1 = true := by
  obtain ⟨k, key, to, val, was, no, most⟩ := a
  simp only [doM]
  simp only [mayAk] at ha
  split
  · split <;> exact hm
  · split
    · rename_i h1 h2
      rw [if_neg zo, if_pos h2] at ha
      simp only [Bool.and_eq_true, decide_eq_true_eq] at ha
      exact setM_may hm ha.1.1.1.1.1 ha.2
    · split
      · split
        · exact delM_may hm _
        · exact hm
      · split
        · rename_i h1 h2 h3 h4
          rw [if_neg zo, if_neg h2, if_pos h4] at ha
          simp only [Bool.and_eq_true, decide_eq_true_eq] at ha
          split
          · exact hm
          · exact setM_may hm ha.1.1.1.1.1 ha.1.1.1.1.2
        · split <;> exact hm
theorem okP_len {p : PrV} (h : okP p = true) : 1 ≤ p.1.length ∧ p.1.length ≤ 24 ∧ p.2.length ≤ 40 := by
  simp only [okP, Bool.and_eq_true, decide_eq_true_eq] at h
  exact ⟨h.1.1, h.1.2, h.2⟩
def prTx (p : PrV) : List UInt8 := UInt8.ofNat p.1.length :: (p.1 ++ UInt8.ofNat p.2.length :: p.2)
def mTx (m : MapV) : List UInt8 := m.flatMap prTx
theorem ofNat_inj {a b : Nat} (ha : a < 256) (hb : b < 256) (h : UInt8.ofNat a = UInt8.ofNat b) : a = b := by
  have := congrArg UInt8.toNat h
  simp only [UInt8.toNat_ofNat'] at this
  omega
theorem prTx_inj {p q : PrV} {l l' : List UInt8} (hp : okP p = true) (hq : okP q = true) (h : prTx p ++ l = prTx q ++ l') : p = q ∧ l = l' := by
  have hp := okP_len hp
  have hq := okP_len hq
  obtain ⟨a, b⟩ := p
  obtain ⟨c, d⟩ := q
  simp only at hp hq
  simp only [prTx, List.cons_append, List.append_assoc, List.cons.injEq] at h
  obtain ⟨h1, h2⟩ := h
  have h1 := ofNat_inj zo zo h1
  obtain ⟨rfl, h3⟩ := List.append_inj h2 h1
  simp only [List.cons.injEq] at h3
  obtain ⟨h4, h5⟩ := h3
  have h4 := ofNat_inj zo zo h4
  obtain ⟨rfl, h6⟩ := List.append_inj h5 h4
  exact ⟨rfl, h6⟩
theorem mTx_inj : ∀ {m m' : MapV}, (∀ p ∈ m, okP p = true) → (∀ p ∈ m', okP p = true) → mTx m = mTx m' → m = m'
  | [], [], _, _, _ => rfl
  | [], q :: m', _, _, h => by simp [mTx, prTx] at h
  | p :: m, [], _, _, h => by simp [mTx, prTx] at h
  | p :: m, q :: m', h1, h2, h => by
    simp only [mTx, List.flatMap_cons] at h
    obtain ⟨rfl, h3⟩ := prTx_inj (h1 p (by simp)) (h2 q (by simp)) h
    rw [mTx_inj (m := m) (m' := m') (fun x hx => h1 x (by simp [hx])) (fun x hx => h2 x (by simp [hx])) h3]
/-! ### which are done -/
def bitN : List Bool → Nat
  | [] => 0
  | b :: l => (if b then 1 else 0) + 2 * bitN l
theorem bitN_lt : ∀ (d : List Bool), bitN d < 2 ^ d.length
  | [] => by simp [bitN]
  | b :: l => by
    have := bitN_lt l
    simp only [bitN, List.length_cons, Nat.pow_succ]
    split <;> omega
theorem bitN_bit : ∀ (d : List Bool) (i : Nat), (bitN d).testBit i = d.getD i false
  | [], i => by simp [bitN]
  | b :: l, 0 => by
    simp only [bitN, List.getD_cons_zero, Nat.testBit_zero]
    cases b <;> simp <;> omega
  | b :: l, i + 1 => by
    have h : bitN (b :: l) / 2 = bitN l := by simp only [bitN]; split <;> omega
    rw [Nat.testBit_succ, h, bitN_bit l i]
    simp
theorem bitN_inj : ∀ {d d' : List Bool}, d.length = d'.length → bitN d = bitN d' → d = d'
  | [], [], _, _ => rfl
  | [], _ :: _, h, _ => by simp at h
  | _ :: _, [], h, _ => by simp at h
  | b :: l, b' :: l', h, h2 => by
    simp only [bitN] at h2
    have h3 : bitN l = bitN l' := by split at h2 <;> split at h2 <;> omega
    have h4 : b = b' := by
      rw [h3] at h2
      cases b <;> cases b' <;> simp at h2 ⊢
    rw [h4, bitN_inj (by simpa using h) h3]
theorem getD_setB (d : List Bool) (i j : Nat) (b : Bool) (hi : i < d.length) : (d.set i b).getD j false = if i = j then b else d.getD j false := by
  rw [List.getD_eq_getElem?_getD, List.getElem?_set]
  split
  · first | rfl | (rw [if_pos hi]; rfl)
  · rw [List.getD_eq_getElem?_getD]
def b4 (n : Nat) : List UInt8 := [UInt8.ofNat (n / 16777216), UInt8.ofNat (n / 65536), UInt8.ofNat (n / 256), UInt8.ofNat n]
theorem b4_inj {n m : Nat} (hn : n < 2 ^ 32) (hm : m < 2 ^ 32) (h : b4 n = b4 m) : n = m := by
  simp only [b4, List.cons.injEq, and_true] at h
  obtain ⟨h1, h2, h3, h4⟩ := h
  have h1 := congrArg UInt8.toNat h1
  have h2 := congrArg UInt8.toNat h2
  have h3 := congrArg UInt8.toNat h3
  have h4 := congrArg UInt8.toNat h4
  simp only [UInt8.toNat_ofNat'] at h1 h2 h3 h4
  omega
def keyS (d : List Bool) (m : MapV) : List UInt8 := b4 (bitN d) ++ mTx m
theorem keyS_inj {d d' : List Bool} {m m' : MapV} (hl : d.length = d'.length) (hn : d.length ≤ 32) (hm : mayMp m = true) (hm' : mayMp m' = true) (h : keyS d m = keyS d' m') : d = d' ∧ m = m' := by
  obtain ⟨h1, h2⟩ := List.append_inj h (by simp [b4])
  have hp : ∀ d : List Bool, d.length ≤ 32 → bitN d < 2 ^ 32 := fun d hd => Nat.lt_of_lt_of_le (bitN_lt d) (Nat.pow_le_pow_right zq hd)
  exact ⟨bitN_inj hl (b4_inj (hp d hn) (hp d' zo) h1), mTx_inj (mayMp_ok hm) (mayMp_ok hm') h2⟩
def refT (d : List Bool) : List UInt8 := d.map fun b => if b then 1 else 0
def keyR (d : List Bool) (m : MapV) : List UInt8 := refT d ++ mTx m
theorem refT_inj : ∀ {d d' : List Bool}, refT d = refT d' → d = d'
  | [], [], _ => rfl
  | [], _ :: _, h => by simp [refT] at h
  | _ :: _, [], h => by simp [refT] at h
  | b :: l, b' :: l', h => by
    simp only [refT, List.map_cons, List.cons.injEq] at h
    rw [refT_inj h.2]
    cases b <;> cases b' <;> simp at h ⊢
theorem keyR_inj {d d' : List Bool} {m m' : MapV} (hl : d.length = d'.length) (hm : mayMp m = true) (hm' : mayMp m' = true) (h : keyR d m = keyR d' m') : d = d' ∧ m = m' := by
  obtain ⟨h1, h2⟩ := List.append_inj h (by simp [refT, hl])
  exact ⟨refT_inj h1, mTx_inj (mayMp_ok hm) (mayMp_ok hm') h2⟩
/-! ### the search, one step -/
def unD (d : List Bool) : Nat := d.count false
theorem unD_set : ∀ {d : List Bool} {i : Nat}, i < d.length → d.getD i false = false → unD (d.set i true) + 1 = unD d
  | [], i, h, _ => by simp at h
  | b :: l, 0, _, h => by
    simp at h; subst h
    simp [unD]
  | b :: l, i + 1, hi, h => by
    have := unD_set (d := l) (i := i) (by simpa using hi) (by simpa using h)
    simp only [unD] at this ⊢
    simp only [List.set_cons_succ, List.count_cons]
    omega
theorem unD_zero {d : List Bool} (h : unD d = 0) {i : Nat} (hi : i < d.length) : d.getD i false = true := by
  have h2 : false ∉ d := List.count_eq_zero.1 h
  rw [List.getD_eq_getElem?_getD, List.getElem?_eq_getElem hi]
  have : d[i] ∈ d := List.getElem_mem hi
  cases hd : d[i] with
  | true => rfl
  | false => rw [hd] at this; exact (h2 this).elim
def seekU (r : List JdV) (d : List Bool) (m : MapV) : Option (List Nat × MapV) := seek r (unD d) d m
/-- may the request at i be the next one, of that map? -/
def canJ (r : List JdV) (d : List Bool) (m : MapV) (i : Nat) : Bool := match r[i]? with
  | none => false
  | some x => mayJ r d i && (decide (x.2.2.1 < 0) || fitsM m x.1.2.2 x.2.2.2)
def stepU (r : List JdV) (d : List Bool) (m : MapV) (i : Nat) : Option (List Nat × MapV) := match r[i]? with
  | none => none
  | some x => if canJ r d m i then (seekU r (d.set i true) (doM m x.1.2.2).1).map (fun q => (i :: q.1, q.2)) else none
theorem mayJ_un {r : List JdV} {d : List Bool} {i : Nat} (h : mayJ r d i = true) : d.getD i false = false := by
  unfold mayJ at h
  split at h
  · cases h
  · simp only [Bool.and_eq_true, Bool.not_eq_true'] at h
    exact h.1.1
theorem seekU_eq {r : List JdV} {d : List Bool} {m : MapV} (hd : d.length = r.length) : seekU r d m = if whlJ r d then some ([], m) else (List.range r.length).findSome? (stepU r d m) := by
  unfold seekU
  by_cases hw : whlJ r d = true
  · rw [if_pos hw]
    cases unD d <;> rw [seek, if_pos hw]
  · rw [if_neg hw]
    cases hn : unD d with
    | zero =>
      refine (hw ?_).elim
      unfold whlJ
      simp only [List.all_eq_true, List.mem_range]
      intro i hi
      rw [List.getElem?_eq_getElem hi, unD_zero hn zo]
      simp [undJ]
    | succ n =>
      rw [seek, if_neg hw]
      congr 1
      funext i
      unfold stepU
      cases hx : r[i]? with
      | none => rfl
      | some x =>
        simp only [canJ, hx]
        split
        · rename_i hm
          have hu := mayJ_un ((Bool.and_eq_true _ _ ▸ hm : _ ∧ _).1)
          have hi := (List.getElem?_eq_some_iff.1 hx).1
          have := unD_set (d := d) (i := i) zo hu
          unfold seekU
          rw [show unD (d.set i true) = n by omega]
        · rfl
theorem findR_none {β : Type} {f : Nat → Option β} {n : Nat} (h : ∀ j, j < n → f j = none) : (List.range n).findSome? f = none := by
  rw [List.findSome?_eq_none_iff]
  intro x hx
  exact h x (List.mem_range.1 hx)
theorem findR_some {β : Type} {f : Nat → Option β} {y : β} : ∀ (n : Nat) {i : Nat}, (∀ j, j < i → f j = none) → f i = some y → i < n → (List.range n).findSome? f = some y
  | 0, i, _, _, h => by omega
  | n + 1, i, h1, h2, h3 => by
    rw [List.range_succ, List.findSome?_append]
    rcases Nat.lt_or_ge i n with h | h
    · rw [findR_some n h1 h2 h]; rfl
    · obtain rfl : i = n := by omega
      rw [findR_none h1]
      simp [h2]
end Go.Vc

namespace Go.Vc
set_option linter.unusedVariables false
set_option linter.unusedSimpArgs false
/-! ### events and judged requests -/
abbrev tEv : Ty EvV := tPair (tInt .i64) (tPair (tInt .i64) (tPair (tInt .i64) (tPair tAk tAn)))
abbrev tJd : Ty JdV := tPair tRq (tPair (tInt .i64) (tPair (tInt .i64) tAn))
section
variable {w : World} {F : Nat → Prop} {cs : List Value} {v : Value}
theorem tEv_cells {a : EvV} (h : tEv.rep w F cs a) : ∃ a1 c1 a2 c2 a3 c3 a4 c4 a5 c5 a6 c6, cs = [.int .i64 a.1, .int .i64 a.2.1, .int .i64 a.2.2.1, .int .i64 a.2.2.2.1.1, .slice a1 a.2.2.2.1.2.1.length c1, .slice a2 a.2.2.2.1.2.2.1.length c2, .slice a3 a.2.2.2.1.2.2.2.1.length c3, .slice a4 a.2.2.2.1.2.2.2.2.1.length c4, .bool a.2.2.2.1.2.2.2.2.2.1, .int .i64 a.2.2.2.1.2.2.2.2.2.2, .int .i64 a.2.2.2.2.1, .slice a5 a.2.2.2.2.2.1.length c5, .slice a6 a.2.2.2.2.2.2.length c6]
    ∧ AgV tAk w F (.agg #[.int .i64 a.2.2.2.1.1, .slice a1 a.2.2.2.1.2.1.length c1, .slice a2 a.2.2.2.1.2.2.1.length c2, .slice a3 a.2.2.2.1.2.2.2.1.length c3, .slice a4 a.2.2.2.1.2.2.2.2.1.length c4, .bool a.2.2.2.1.2.2.2.2.2.1, .int .i64 a.2.2.2.1.2.2.2.2.2.2]) a.2.2.2.1
    ∧ AgV tAn w F (.agg #[.int .i64 a.2.2.2.2.1, .slice a5 a.2.2.2.2.2.1.length c5, .slice a6 a.2.2.2.2.2.2.length c6]) a.2.2.2.2 ∧ I64' a.1 ∧ I64' a.2.1 ∧ I64' a.2.2.1 := by
  obtain ⟨_, _, rfl, ⟨rfl, i1⟩, _, _, rfl, ⟨rfl, i2⟩, _, _, rfl, ⟨rfl, i3⟩, k1, k2, rfl, h1, h2⟩ := h
  obtain ⟨a1, c1, a2, c2, a3, c3, a4, c4, rfl, _⟩ := tAk_cells h1
  obtain ⟨a5, c5, a6, c6, rfl, _⟩ := tAn_cells h2
  exact ⟨a1, c1, a2, c2, a3, c3, a4, c4, a5, c5, a6, c6, rfl, ⟨_, rfl, h1⟩, ⟨_, rfl, h2⟩, wf_i64 i1, wf_i64 i2, wf_i64 i3⟩
theorem AgV.ev {a : EvV} (h : AgV tEv w F v a) : ∃ a1 c1 a2 c2 a3 c3 a4 c4 a5 c5 a6 c6, v = .agg #[.int .i64 a.1, .int .i64 a.2.1, .int .i64 a.2.2.1, .int .i64 a.2.2.2.1.1, .slice a1 a.2.2.2.1.2.1.length c1, .slice a2 a.2.2.2.1.2.2.1.length c2, .slice a3 a.2.2.2.1.2.2.2.1.length c3, .slice a4 a.2.2.2.1.2.2.2.2.1.length c4, .bool a.2.2.2.1.2.2.2.2.2.1, .int .i64 a.2.2.2.1.2.2.2.2.2.2, .int .i64 a.2.2.2.2.1, .slice a5 a.2.2.2.2.2.1.length c5, .slice a6 a.2.2.2.2.2.2.length c6]
    ∧ AgV tAk w F (.agg #[.int .i64 a.2.2.2.1.1, .slice a1 a.2.2.2.1.2.1.length c1, .slice a2 a.2.2.2.1.2.2.1.length c2, .slice a3 a.2.2.2.1.2.2.2.1.length c3, .slice a4 a.2.2.2.1.2.2.2.2.1.length c4, .bool a.2.2.2.1.2.2.2.2.2.1, .int .i64 a.2.2.2.1.2.2.2.2.2.2]) a.2.2.2.1
    ∧ AgV tAn w F (.agg #[.int .i64 a.2.2.2.2.1, .slice a5 a.2.2.2.2.2.1.length c5, .slice a6 a.2.2.2.2.2.2.length c6]) a.2.2.2.2 ∧ I64' a.1 ∧ I64' a.2.1 ∧ I64' a.2.2.1 := by
  obtain ⟨cs, rfl, hr⟩ := h
  obtain ⟨a1, c1, a2, c2, a3, c3, a4, c4, a5, c5, a6, c6, rfl, h⟩ := tEv_cells hr
  exact ⟨a1, c1, a2, c2, a3, c3, a4, c4, a5, c5, a6, c6, rfl, h⟩
theorem tJd_cells {a : JdV} (h : tJd.rep w F cs a) : ∃ a1 c1 a2 c2 a3 c3 a4 c4 a5 c5 a6 c6, cs = [.int .i64 a.1.1, .int .i64 a.1.2.1, .int .i64 a.1.2.2.1, .slice a1 a.1.2.2.2.1.length c1, .slice a2 a.1.2.2.2.2.1.length c2, .slice a3 a.1.2.2.2.2.2.1.length c3, .slice a4 a.1.2.2.2.2.2.2.1.length c4, .bool a.1.2.2.2.2.2.2.2.1, .int .i64 a.1.2.2.2.2.2.2.2.2, .int .i64 a.2.1, .int .i64 a.2.2.1, .int .i64 a.2.2.2.1, .slice a5 a.2.2.2.2.1.length c5, .slice a6 a.2.2.2.2.2.length c6]
    ∧ AgV tAk w F (.agg #[.int .i64 a.1.2.2.1, .slice a1 a.1.2.2.2.1.length c1, .slice a2 a.1.2.2.2.2.1.length c2, .slice a3 a.1.2.2.2.2.2.1.length c3, .slice a4 a.1.2.2.2.2.2.2.1.length c4, .bool a.1.2.2.2.2.2.2.2.1, .int .i64 a.1.2.2.2.2.2.2.2.2]) a.1.2.2
    ∧ AgV tAn w F (.agg #[.int .i64 a.2.2.2.1, .slice a5 a.2.2.2.2.1.length c5, .slice a6 a.2.2.2.2.2.length c6]) a.2.2.2 ∧ I64' a.1.1 ∧ I64' a.1.2.1 ∧ I64' a.2.1 ∧ I64' a.2.2.1 := by
  obtain ⟨k0, _, rfl, h0, _, _, rfl, ⟨rfl, i3⟩, _, k2, rfl, ⟨rfl, i4⟩, h2⟩ := h
  obtain ⟨a1, c1, a2, c2, a3, c3, a4, c4, rfl, hq, i1, i2⟩ := tRq_cells h0
  obtain ⟨a5, c5, a6, c6, rfl, _⟩ := tAn_cells h2
  exact ⟨a1, c1, a2, c2, a3, c3, a4, c4, a5, c5, a6, c6, rfl, hq, ⟨_, rfl, h2⟩, i1, i2, wf_i64 i3, wf_i64 i4⟩
theorem AgV.jd {a : JdV} (h : AgV tJd w F v a) : ∃ a1 c1 a2 c2 a3 c3 a4 c4 a5 c5 a6 c6, v = .agg #[.int .i64 a.1.1, .int .i64 a.1.2.1, .int .i64 a.1.2.2.1, .slice a1 a.1.2.2.2.1.length c1, .slice a2 a.1.2.2.2.2.1.length c2, .slice a3 a.1.2.2.2.2.2.1.length c3, .slice a4 a.1.2.2.2.2.2.2.1.length c4, .bool a.1.2.2.2.2.2.2.2.1, .int .i64 a.1.2.2.2.2.2.2.2.2, .int .i64 a.2.1, .int .i64 a.2.2.1, .int .i64 a.2.2.2.1, .slice a5 a.2.2.2.2.1.length c5, .slice a6 a.2.2.2.2.2.length c6]
    ∧ AgV tAk w F (.agg #[.int .i64 a.1.2.2.1, .slice a1 a.1.2.2.2.1.length c1, .slice a2 a.1.2.2.2.2.1.length c2, .slice a3 a.1.2.2.2.2.2.1.length c3, .slice a4 a.1.2.2.2.2.2.2.1.length c4, .bool a.1.2.2.2.2.2.2.2.1, .int .i64 a.1.2.2.2.2.2.2.2.2]) a.1.2.2
    ∧ AgV tAn w F (.agg #[.int .i64 a.2.2.2.1, .slice a5 a.2.2.2.2.1.length c5, .slice a6 a.2.2.2.2.2.length c6]) a.2.2.2 ∧ I64' a.1.1 ∧ I64' a.1.2.1 ∧ I64' a.2.1 ∧ I64' a.2.2.1 := by
  obtain ⟨cs, rfl, hr⟩ := h
  obtain ⟨a1, c1, a2, c2, a3, c3, a4, c4, a5, c5, a6, c6, rfl, h⟩ := tJd_cells hr
  exact ⟨a1, c1, a2, c2, a3, c3, a4, c4, a5, c5, a6, c6, rfl, h⟩
theorem AgV.cells {α : Type} {t : Ty α} {x : α} {l : List Value} (h : AgV t w F (.agg l.toArray) x) : t.rep w F l x := by
  obtain ⟨cs, hc, hr⟩ := h
  obtain rfl : l = cs := by simpa using hc
  exact hr
theorem tJd_mk {k1 k2 : List Value} {c n i j : Int} {a : AkV} {x : AnV} (h1 : tAk.rep w F k1 a) (h2 : tAn.rep w F k2 x) (i1 : I64' c) (i2 : I64' n) (i3 : I64' i) (i4 : I64' j) : tJd.rep w F ((.int .i64 c :: .int .i64 n :: k1) ++ (.int .i64 i :: .int .i64 j :: k2)) ((c, n, a), i, j, x) :=
  ⟨.int .i64 c :: .int .i64 n :: k1, _, rfl, ⟨[_], _, rfl, ⟨rfl, wf_of_i64 i1⟩, [_], _, rfl, ⟨rfl, wf_of_i64 i2⟩, h1⟩, [_], _, rfl, ⟨rfl, wf_of_i64 i3⟩, [_], _, rfl, ⟨rfl, wf_of_i64 i4⟩, h2⟩
end
end Go.Vc

namespace Go.Vc
set_option linter.unusedVariables false
set_option linter.unusedSimpArgs false
theorem u64_bits : IntKind.u64.bits = 64 := rfl
theorem shr64 (n i : Nat) (hi : i < 64) : Int.fdiv (n : Int) (2 ^ (min ((i : Nat) : Int).toNat IntKind.u64.bits)) = ((n / 2 ^ i : Nat) : Int) := by
  have h : min ((i : Nat) : Int).toNat IntKind.u64.bits = i := by rw [u64_bits, Int.toNat_natCast]; omega
  rw [h, Int.fdiv_eq_ediv_of_nonneg _ (by exact_mod_cast Nat.zero_le _)]
  push_cast; rfl
theorem wrN64 {n : Nat} (h : n < 2 ^ 64) : IntKind.u64.wrap ((n : Nat) : Int) = (n : Int) := wr_u64 zo zo
theorem bv_of (n : Nat) : BitVec.ofInt 64 ((n : Nat) : Int) = BitVec.ofNat 64 n := BitVec.ofInt_natCast 64 n
theorem and_gen (n : Nat) : (BitVec.ofInt 64 ((n : Nat) : Int) &&& BitVec.ofInt 64 1).toNat = n % 2 := by
  rw [bv_of, show BitVec.ofInt 64 1 = BitVec.ofNat 64 1 from rfl, BitVec.toNat_and, BitVec.toNat_ofNat, BitVec.toNat_ofNat]
  rw [show 1 % 2 ^ 64 = 1 from rfl, Nat.and_one_is_mod]
  omega
theorem and1_64 (n : Nat) : IntKind.u64.wrap ((BitVec.ofInt IntKind.u64.bits ((n : Nat) : Int) &&& BitVec.ofInt IntKind.u64.bits 1).toNat) = ((n % 2 : Nat) : Int) := by
  have h : (BitVec.ofInt IntKind.u64.bits ((n : Nat) : Int) &&& BitVec.ofInt IntKind.u64.bits 1).toNat = n % 2 := and_gen n
  rw [h]; exact wrN64 zo
theorem shl64 (i : Nat) (hi : i < 64) : IntKind.u64.wrap (1 * 2 ^ (min ((i : Nat) : Int).toNat IntKind.u64.bits)) = ((2 ^ i : Nat) : Int) := by
  have h : min ((i : Nat) : Int).toNat IntKind.u64.bits = i := by rw [u64_bits, Int.toNat_natCast]; omega
  rw [h, Int.one_mul, show ((2 : Int) ^ i) = ((2 ^ i : Nat) : Int) by push_cast; rfl]
  exact wrN64 (Nat.pow_lt_pow_right zq hi)
theorem bitN_64 {d : List Bool} (h : d.length ≤ 32) : bitN d < 2 ^ 64 := Nat.lt_of_lt_of_le (bitN_lt d) (Nat.pow_le_pow_right zq zo)
theorem bit_at (d : List Bool) (i : Nat) : bitN d / 2 ^ i % 2 = if d.getD i false then 1 else 0 := by
  have h := bitN_bit d i
  rw [Nat.testBit_eq_decide_div_mod_eq] at h
  cases hb : d.getD i false with
  | true => rw [hb] at h; simpa using h
  | false =>
    rw [hb] at h
    have := of_decide_eq_false h
    simp; omega
theorem or_gen {d : List Bool} {i : Nat} (hd : d.length ≤ 32) (hi : i < d.length) : (BitVec.ofInt 64 ((bitN d : Nat) : Int) ||| BitVec.ofInt 64 ((2 ^ i : Nat) : Int)).toNat = bitN (d.set i true) := by
  rw [bv_of, bv_of, BitVec.toNat_or, BitVec.toNat_ofNat, BitVec.toNat_ofNat, Nat.mod_eq_of_lt (bitN_64 hd), Nat.mod_eq_of_lt (Nat.pow_lt_pow_right zq zo)]
  refine Nat.eq_of_testBit_eq fun j => ?_
  rw [Nat.testBit_or, bitN_bit, bitN_bit, getD_setB _ _ _ _ hi, Nat.testBit_two_pow]
  by_cases h : i = j
  · simp [h]
  · simp [h]
theorem or_bit {d : List Bool} {i : Nat} (hd : d.length ≤ 32) (hi : i < d.length) : IntKind.u64.wrap ((BitVec.ofInt IntKind.u64.bits ((bitN d : Nat) : Int) ||| BitVec.ofInt IntKind.u64.bits ((2 ^ i : Nat) : Int)).toNat) = ((bitN (d.set i true) : Nat) : Int) := by
  have h : (BitVec.ofInt IntKind.u64.bits ((bitN d : Nat) : Int) ||| BitVec.ofInt IntKind.u64.bits ((2 ^ i : Nat) : Int)).toNat = bitN (d.set i true) := or_gen hd hi
  rw [h]; exact wrN64 (bitN_64 (by rw [List.length_set]; exact hd))
theorem andNot_gen {d : List Bool} {i : Nat} (hd : d.length ≤ 32) (hi : i < d.length) : (BitVec.ofInt 64 ((bitN d : Nat) : Int) &&& ~~~ BitVec.ofInt 64 ((2 ^ i : Nat) : Int)).toNat = bitN (d.set i false) := by
  rw [bv_of, bv_of]
  refine Nat.eq_of_testBit_eq fun j => ?_
  rw [BitVec.testBit_toNat, BitVec.getLsbD_and, BitVec.getLsbD_not, BitVec.getLsbD_ofNat, BitVec.getLsbD_ofNat, bitN_bit, bitN_bit, getD_setB _ _ _ _ hi, Nat.testBit_two_pow]
  by_cases h : i = j
  · subst h; simp
  · by_cases hj : j < 64
    · simp [h, hj]
    · have : d.getD j false = false := by rw [List.getD_eq_getElem?_getD, List.getElem?_eq_none zo]; rfl
      rw [this]; simp [h, hj]
theorem andNot_bit {d : List Bool} {i : Nat} (hd : d.length ≤ 32) (hi : i < d.length) : IntKind.u64.wrap ((BitVec.ofInt IntKind.u64.bits ((bitN d : Nat) : Int) &&& ~~~ BitVec.ofInt IntKind.u64.bits ((2 ^ i : Nat) : Int)).toNat) = ((bitN (d.set i false) : Nat) : Int) := by
  have h : (BitVec.ofInt IntKind.u64.bits ((bitN d : Nat) : Int) &&& ~~~ BitVec.ofInt IntKind.u64.bits ((2 ^ i : Nat) : Int)).toNat = bitN (d.set i false) := andNot_gen hd hi
  rw [h]; exact wrN64 (bitN_64 (by rw [List.length_set]; exact hd))
theorem byteN (n : Nat) : IntKind.u8.wrap (n : Int) = (((UInt8.ofNat n).toNat : Nat) : Int) := by
  rw [wr_u8m, UInt8.toNat_ofNat']; omega
theorem b4_len (n : Nat) : (b4 n).length = 4 := rfl
def wbJ (r : List JdV) (d : List Bool) (k : Nat) : Bool := match r[k]? with | some x => !undJ x (d.getD k false) | none => true
theorem whl_iff {r : List JdV} {d : List Bool} : whlJ r d = true ↔ ∀ k, k < r.length → wbJ r d k = true := by
  unfold whlJ
  simp only [List.all_eq_true, List.mem_range]
  exact Iff.rfl
theorem whl_no {r : List JdV} {d : List Bool} {i : Nat} (hi : i < r.length) (h : wbJ r d i = false) : whlJ r d = false := by
  rw [Bool.eq_false_iff]; intro h2
  have := whl_iff.1 h2 i hi
  rw [h] at this; cases this
end Go.Vc

namespace Go.Vc
set_option linter.unusedVariables false
/-! ### the chapter's rows -/
def evPut (c n : Int) (k v : List UInt8) : EvV := (1, c, n, (2, k, [], v, [], false, 0), an0)
def evGet (c n : Int) (k : List UInt8) : EvV := (1, c, n, (1, k, [], [], [], false, 0), an0)
def evTold (c n e : Int) (ps : List PrV) : EvV := (2, c, n, ak0, (e, ps, []))
def prA : PrV := ([97], [120])
def kn1 : List EvV := [evPut 1 1 [97] [120], evTold 1 1 0 [], evGet 2 1 [97], evTold 2 1 0 [prA]]
def kn2 : List EvV := [evPut 1 1 [97] [120], evGet 2 1 [97], evTold 2 1 6 [], evTold 1 1 0 []]
def kn3 : List EvV := [evPut 1 1 [97] [120], evTold 1 1 0 [], evGet 2 1 [97], evTold 2 1 6 []]
def kn4 : List EvV := [evPut 1 1 [97] [120], evGet 2 1 [97], evTold 2 1 0 [prA]]
def kn5 : List EvV := [evTold 1 1 0 []]
def kn6 : List EvV := [evPut 1 1 [97] [120], evPut 1 1 [97] [120]]
theorem kn1_ok : jdg kn1 = (0, 0, [0, 1], [prA]) := by decide +kernel
theorem kn2_ok : jdg kn2 = (0, 0, [1, 0], [prA]) := by decide +kernel
theorem kn3_ok : jdg kn3 = (0, 9, [], []) := by decide +kernel
theorem kn4_ok : jdg kn4 = (0, 0, [0, 1], [prA]) := by decide +kernel
theorem kn5_ok : jdg kn5 = (0, 2, [], []) := by decide +kernel
theorem kn6_ok : jdg kn6 = (1, 2, [], []) := by decide +kernel
end Go.Vc

namespace Go.Vc
set_option linter.unusedVariables false
end Go.Vc
