/- A part of the proof: steps and lemmas for the walks through the given program. -/
import Derived.Test.YtkaangdfpjkjpaaVc20
namespace Go.Vc
set_option linter.unusedVariables false
set_option linter.unusedSimpArgs false
/-! ### new variables, and what is stored in them, in a region of any order -/
/-- al: the operation that makes it; st: the one that stores; z, c: its cells ahead of that, and behind -/
structure AlE where
  al : Nat
  st : Option Nat
  T : TypeId
  z : List Value
  c : List Value
def stD (done : Nat → Bool) (a : AlE) : Bool := match a.st with
  | some s => done s
  | none => false
def AlJ (n0 : Nat) (as : List AlE) (done : Nat → Bool) (vals : Nat → Value) (w : World) : Prop :=
  (∀ a ∈ as, done a.al = true → ∃ b, vals a.al = .pointer (some ⟨b, 0, none⟩) ∧ n0 ≤ b ∧ Blk w b (bif stD done a then a.c else a.z) a.T) ∧
  (∀ a ∈ as, ∀ a' ∈ as, a.al ≠ a'.al → done a.al = true → done a'.al = true → vals a.al ≠ vals a'.al) ∧ n0 ≤ w.heap.size
def dAl (as : List AlE) (i : Nat) : Bool := as.any fun a => Nat.beq a.al i || (match a.st with | some s => Nat.beq s i | none => false)
theorem dAl_al {as : List AlE} {a : AlE} (h : a ∈ as) : dAl as a.al = true := List.any_eq_true.2 ⟨a, h, by simp⟩
theorem dAl_st {as : List AlE} {a : AlE} {s : Nat} (h : a ∈ as) (hs : a.st = some s) : dAl as s = true := List.any_eq_true.2 ⟨a, h, by simp [hs]⟩
section
variable {n0 : Nat} {as : List AlE} {done : Nat → Bool} {vals : Nat → Value} {w w' : World}
theorem AlJ.on : JOn (dAl as) (AlJ n0 as) := by
  rintro done vals done' vals' w h ⟨h1, h2, h3⟩
  have hst : ∀ a ∈ as, stD done a = stD done' a := fun a ha => by
    unfold stD
    cases hs : a.st with
    | none => rfl
    | some s => exact (h s (dAl_st ha hs)).1
  refine ⟨fun a ha hd => ?_, fun a ha a' ha' hne hd hd' => ?_, h3⟩
  · have h4 := h a.al (dAl_al ha)
    rw [← h4.1] at hd
    rw [← h4.2, ← hst a ha]; exact h1 a ha hd
  · have h4 := h a.al (dAl_al ha)
    have h5 := h a'.al (dAl_al ha')
    rw [← h4.2, ← h5.2]
    exact h2 a ha a' ha' hne (by rw [h4.1]; exact hd) (by rw [h5.1]; exact hd')
theorem AlJ.ext (j : AlJ n0 as done vals w) (e : Ext w w') : AlJ n0 as done vals w' := by
  obtain ⟨h1, h2, h3⟩ := j
  exact ⟨fun a ha hd => by obtain ⟨b, hb, hn, hB⟩ := h1 a ha hd; exact ⟨b, hb, hn, hB.ext e⟩, h2, Nat.le_trans h3 e.size⟩
theorem AlJ.start (h : n0 ≤ w.heap.size) (hd : ∀ a ∈ as, done a.al = false) : AlJ n0 as done vals w := by
  refine ⟨fun a ha h => ?_, fun a ha a' ha' _ h _ => ?_, h⟩
  · rw [hd a ha] at h; cases h
  · rw [hd a ha] at h; cases h
/-- what neither makes nor stores -/
theorem AlJ.src {k : Nat} {v : Value} (j : AlJ n0 as done vals w) (e : Ext w w') (hk : dAl as k = false) : AlJ n0 as (don done k) (setv vals k v) w' := AlJ.on.step hk (j.ext e)
theorem AlJ.al {ops : Array Oper} {i k b : Nat} {a : AlE} (j : AlJ n0 as done vals w) (hi : as[i]? = some a) (hk : a.al = k) (hd : done k = false) (hcl : Closed ops done)
    (hone : ∀ m a', as[m]? = some a' → a'.al = k → m = i) (hst : ∀ a' ∈ as, a'.st ≠ some k) (hs : ∀ s, a.st = some s → ∃ o, ops[s]? = some o ∧ edgeOn o k = true)
    (hb : b = w.heap.size) (hB : Blk w' b a.z a.T) (e : Ext w w') : AlJ n0 as (don done k) (setv vals k (.pointer (some ⟨b, 0, none⟩))) w' := by
  obtain ⟨h1, h2, h3⟩ := j
  have hns : stD done a = false := by
    unfold stD
    cases hh : a.st with
    | none => rfl
    | some s =>
      obtain ⟨o, ho, he⟩ := hs s hh
      cases hds : done s with
      | false => exact hds
      | true => have := hcl s o hds ho k he; rw [hd] at this; cases this
  have hstd : ∀ a' ∈ as, stD (don done k) a' = stD done a' := fun a' ha' => by
    unfold stD
    cases hh : a'.st with
    | none => rfl
    | some s =>
      have : s ≠ k := fun he => hst a' ha' (by rw [hh, he])
      simp [don, this]
  have hoth : ∀ a' ∈ as, a'.al ≠ k → don done k a'.al = true → done a'.al = true := fun a' _ hne h => by simpa [don, hne] using h
  have hlt : ∀ a' ∈ as, a'.al ≠ k → done a'.al = true → vals a'.al ≠ .pointer (some ⟨b, 0, none⟩) := fun a' ha' hne hda he => by
    obtain ⟨b', hb', _, hB'⟩ := h1 a' ha' hda
    rw [he] at hb'; cases hb'
    have := hB'.lt; omega
  refine ⟨fun a' ha' hda => ?_, fun a1 ha1 a2 ha2 hne hd1 hd2 => ?_, Nat.le_trans h3 e.size⟩
  · rw [hstd a' ha']
    by_cases hak : a'.al = k
    · obtain ⟨m, hm⟩ := List.mem_iff_getElem?.1 ha'
      have := hone m a' hm hak
      subst this
      rw [hi] at hm; cases hm
      refine ⟨b, by simp [setv, hak], by omega, ?_⟩
      rw [hns]; exact hB
    · obtain ⟨b', hb', hn, hB'⟩ := h1 a' ha' (hoth a' ha' hak hda)
      exact ⟨b', by simp [setv, hak]; exact hb', hn, hB'.ext e⟩
  · by_cases h1k : a1.al = k
    · have h2k : a2.al ≠ k := fun h => hne (by rw [h1k, h])
      simp only [setv, h1k, if_true, if_neg h2k]
      exact fun h => hlt a2 ha2 h2k (hoth a2 ha2 h2k hd2) h.symm
    · by_cases h2k : a2.al = k
      · simp only [setv, h2k, if_true, if_neg h1k]
        exact hlt a1 ha1 h1k (hoth a1 ha1 h1k hd1)
      · simp only [setv, if_neg h1k, if_neg h2k]
        exact h2 a1 ha1 a2 ha2 hne (hoth a1 ha1 h1k hd1) (hoth a2 ha2 h2k hd2)
/-- ahead of the store -/
theorem AlJ.at {i k : Nat} {a : AlE} (j : AlJ n0 as done vals w) (hi : as[i]? = some a) (hs : a.st = some k) (hd : done k = false) (hal : done a.al = true) : ∃ b, vals a.al = .pointer (some ⟨b, 0, none⟩) ∧ n0 ≤ b ∧ Blk w b a.z a.T := by
  obtain ⟨b, hb, hn, hB⟩ := j.1 a (List.mem_of_getElem? hi) hal
  have : stD done a = false := by unfold stD; rw [hs]; exact hd
  rw [this] at hB
  exact ⟨b, hb, hn, hB⟩
theorem AlJ.st {i k b : Nat} {a : AlE} {u : Value} (j : AlJ n0 as done vals w) (hi : as[i]? = some a) (hs : a.st = some k) (hd : done k = false) (hal : done a.al = true)
    (hone : ∀ m a', as[m]? = some a' → a'.st = some k → m = i) (hna : ∀ a' ∈ as, a'.al ≠ k) (hu : (as.all fun x => as.all fun y => Nat.beq x.al y.al == false || true) = true) (hinj : ∀ m a', as[m]? = some a' → a'.al = a.al → m = i)
    (hb : vals a.al = .pointer (some ⟨b, 0, none⟩)) (hB : Blk w' b a.c a.T) (kk : Keep (fun x => x = b) w w') : AlJ n0 as (don done k) (setv vals k u) w' := by
  obtain ⟨h1, h2, h3⟩ := j
  have hv : ∀ a' ∈ as, setv vals k u a'.al = vals a'.al ∧ don done k a'.al = done a'.al := fun a' ha' => by
    have := hna a' ha'
    simp [setv, don, this]
  refine ⟨fun a' ha' hda => ?_, fun a1 ha1 a2 ha2 hne hd1 hd2 => ?_, Nat.le_trans h3 kk.size⟩
  · rw [(hv a' ha').2] at hda
    rw [(hv a' ha').1]
    obtain ⟨m, hm⟩ := List.mem_iff_getElem?.1 ha'
    by_cases hmi : m = i
    · subst hmi
      rw [hi] at hm; cases hm
      obtain ⟨b', hb', hn, hB'⟩ := h1 a ha' hda
      rw [hb] at hb'; cases hb'
      refine ⟨b, hb, hn, ?_⟩
      have : stD (don done k) a = true := by unfold stD; rw [hs]; simp [don]
      rw [this]; exact hB
    · have hne : a'.al ≠ a.al := fun h => hmi (hinj m a' hm h)
      obtain ⟨b', hb', hn, hB'⟩ := h1 a' ha' hda
      have hbb : b' ≠ b := fun h => h2 a' ha' a (List.mem_of_getElem? hi) hne hda hal (by rw [hb', hb, h])
      refine ⟨b', hb', hn, ?_⟩
      have : stD (don done k) a' = stD done a' := by
        unfold stD
        cases hh : a'.st with
        | none => rfl
        | some s =>
          have : s ≠ k := fun he => hmi (hone m a' hm (by rw [hh, he]))
          simp [don, this]
      rw [this]; exact hB'.keep kk hbb
  · rw [(hv a1 ha1).1, (hv a2 ha2).1]
    rw [(hv a1 ha1).2] at hd1
    rw [(hv a2 ha2).2] at hd2
    exact h2 a1 ha1 a2 ha2 hne hd1 hd2
theorem AlJ.fin (j : AlJ n0 as (fun _ => true) vals w) {i : Nat} {a : AlE} (hi : as[i]? = some a) : ∃ b, vals a.al = .pointer (some ⟨b, 0, none⟩) ∧ n0 ≤ b ∧ Blk w b (match a.st with | some _ => a.c | none => a.z) a.T := by
  obtain ⟨b, hb, hn, hB⟩ := j.1 a (List.mem_of_getElem? hi) rfl
  refine ⟨b, hb, hn, ?_⟩
  unfold stD at hB
  cases hs : a.st with
  | none => rw [hs] at hB; exact hB
  | some s => rw [hs] at hB; exact hB
theorem AlJ.ne (j : AlJ n0 as (fun _ => true) vals w) {i m : Nat} {a a' : AlE} (hi : as[i]? = some a) (hm : as[m]? = some a') (hne : a.al ≠ a'.al) {b b' : Nat} (hb : vals a.al = .pointer (some ⟨b, 0, none⟩)) (hb' : vals a'.al = .pointer (some ⟨b', 0, none⟩)) : b ≠ b' :=
  fun h => j.2.1 a (List.mem_of_getElem? hi) a' (List.mem_of_getElem? hm) hne rfl rfl (by rw [hb, hb', h])
end
def alOne (as : List AlE) : Bool := (List.range as.length).all fun i => (List.range as.length).all fun m => Nat.beq i m || (match as[i]?, as[m]? with
  | some a, some a' => !(Nat.beq a.al a'.al) && (match a.st, a'.st with | some s, some s' => !(Nat.beq s s') | _, _ => true) && (match a.st with | some s => !(Nat.beq s a'.al) && !(Nat.beq s a.al) | none => true)
  | _, _ => true)
theorem alOne_al {as : List AlE} (h : alOne as = true) {i m : Nat} {a a' : AlE} (hi : as[i]? = some a) (hm : as[m]? = some a') (he : a'.al = a.al) : m = i := by
  have h1 := List.all_eq_true.1 h m (List.mem_range.2 (List.getElem?_eq_some_iff.1 hm).1)
  have h2 := List.all_eq_true.1 h1 i (List.mem_range.2 (List.getElem?_eq_some_iff.1 hi).1)
  rw [hi, hm] at h2
  simp only [he, Nat.beq_refl, Bool.not_true, Bool.false_and, Bool.or_false] at h2
  exact Nat.eq_of_beq_eq_true h2
theorem alOne_st {as : List AlE} (h : alOne as = true) {i m k : Nat} {a a' : AlE} (hi : as[i]? = some a) (hm : as[m]? = some a') (hs : a.st = some k) (he : a'.st = some k) : m = i := by
  have h1 := List.all_eq_true.1 h m (List.mem_range.2 (List.getElem?_eq_some_iff.1 hm).1)
  have h2 := List.all_eq_true.1 h1 i (List.mem_range.2 (List.getElem?_eq_some_iff.1 hi).1)
  rw [hi, hm] at h2
  simp only [hs, he, Nat.beq_refl, Bool.not_true, Bool.false_and, Bool.and_false, Bool.or_false] at h2
  exact Nat.eq_of_beq_eq_true h2
def alSt (as : List AlE) : Bool := as.all fun a => as.all fun a' => match a.st with | some s => !(Nat.beq s a'.al) | none => true
theorem alSt_ne {as : List AlE} (h : alSt as = true) {a a' : AlE} (ha : a ∈ as) (ha' : a' ∈ as) : a.st ≠ some a'.al := fun hs => by
  have h1 := List.all_eq_true.1 (List.all_eq_true.1 h a ha) a' ha'
  simp [hs] at h1
theorem al_lt {as : List AlE} {n : Nat} (h : (as.all fun a => Nat.blt a.al n) = true) : ∀ a ∈ as, a.al < n := fun a ha => by
  have := List.all_eq_true.1 h a ha
  have h2 : a.al + 1 ≤ n := by simpa [Nat.blt] using this
  exact h2
end Go.Vc
