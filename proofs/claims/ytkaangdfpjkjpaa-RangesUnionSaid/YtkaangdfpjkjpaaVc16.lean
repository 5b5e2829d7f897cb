/- A part of the proof: steps and lemmas for the walks through the given program. -/
import Derived.Test.YtkaangdfpjkjpaaVc15
namespace Go.Vc
set_option linter.unusedVariables false
set_option linter.unusedSimpArgs false
/-- J speaks of the operations of D alone -/
def JOn (D : Nat → Bool) (J : (Nat → Bool) → (Nat → Value) → World → Prop) : Prop := ∀ done vals done' vals' w, (∀ i, D i = true → done i = done' i ∧ vals i = vals' i) → J done vals w → J done' vals' w
def inD (l : List Nat) (i : Nat) : Bool := l.any (Nat.beq i)
theorem JOn.step {D : Nat → Bool} {J : (Nat → Bool) → (Nat → Value) → World → Prop} (h : JOn D J) {k : Nat} (hk : D k = false) {done : Nat → Bool} {vals : Nat → Value} {v : Value} {w : World} (j : J done vals w) : J (don done k) (setv vals k v) w :=
  h _ _ _ _ w (fun i hi => by
    have : i ≠ k := fun he => by subst he; rw [hk] at hi; cases hi
    simp [don, setv, this]) j
section
variable {P : Program} {N : Nat} {ops : Array Oper} {Q : Exit → Act → World → Prop} {K : Nat → Prop} {J : (Nat → Bool) → (Nat → Value) → World → Prop} {D : Nat → Bool} {e0 : Nat → Value} {w0 : World} {l : List Oper} {k : Nat} {S : Nat → Value → World → Prop}
theorem rj_nil (h : ∀ vals w, Keep K w0 w → J (fun _ => true) vals w → FinJ N Q S vals ops.toList 0 e0 w) : RegJ P N ops Q K J e0 w0 [] k S := h
theorem rj_v {d : Option Tmp} {op : Op} {ty : TypeId} {p : String} {af : Array Edge} {t : Value} (hD : JOn D J) (hk : D k = false)
    (h : ∀ done vals w, Keep K w0 w → J done vals w → (∀ j, edgeOn ⟨d, op, ty, p, af, none⟩ j = true → done j = true) → (∀ j, edgeOn ⟨d, op, ty, p, af, none⟩ j = true → S j (vals j) w) → OpVat P ⟨d, op, ty, p, af, none⟩ (envA ops vals e0 k) w t)
    (r : RegJ P N ops Q K J e0 w0 l (k + 1) (setS S k (fun v _ => v = t))) : RegJ P N ops Q K J e0 w0 (⟨d, op, ty, p, af, none⟩ :: l) k S := by
  refine ⟨_, fun _ _ _ h _ => h, fun done vals w hR hcl hdk hJ hdn hd => ?_, r⟩
  simp only [OpG, wantedE, Region.wanted, if_true]
  exact OpTo.of_v (h done vals w hR hJ hdn hd) ⟨Keep.refl _, rfl, hD.step hk hJ⟩
theorem rj_d {d : Option Tmp} {op : Op} {ty : TypeId} {p : String} {af : Array Edge}
    (h : ∀ done vals w, Keep K w0 w → Closed ops done → done k = false → J done vals w → (∀ j, edgeOn ⟨d, op, ty, p, af, none⟩ j = true → done j = true) → (∀ j, edgeOn ⟨d, op, ty, p, af, none⟩ j = true → S j (vals j) w) → OpTo P ⟨d, op, ty, p, af, none⟩ (envA ops vals e0 k) w (fun v w' => Keep K w w' ∧ J (don done k) (setv vals k v) w'))
    (r : RegJ P N ops Q K J e0 w0 l (k + 1) (setS S k (fun _ _ => True))) : RegJ P N ops Q K J e0 w0 (⟨d, op, ty, p, af, none⟩ :: l) k S := by
  refine ⟨fun _ _ => True, fun _ _ _ h _ => h, fun done vals w hR hcl hdk hJ hdn hd => ?_, r⟩
  simp only [OpG, wantedE, Region.wanted, if_true]
  exact (h done vals w hR hcl hdk hJ hdn hd).mono fun v w' hv => ⟨hv.1, trivial, hv.2⟩
theorem rj_hd {d : Option Tmp} {op : Op} {ty : TypeId} {p : String} {af : Array Edge} {g : Nat} {b : Bool} {tt : Tmp} (hg : (ops[g]?).bind (·.dst) = some tt)
    (hc : ∀ vals w, (∀ j, edgeOn ⟨d, op, ty, p, af, some (g, b)⟩ j = true → S j (vals j) w) → envA ops vals e0 k tt = .bool b)
    (h : ∀ done vals w, Keep K w0 w → Closed ops done → done k = false → J done vals w → (∀ j, edgeOn ⟨d, op, ty, p, af, some (g, b)⟩ j = true → done j = true) → (∀ j, edgeOn ⟨d, op, ty, p, af, some (g, b)⟩ j = true → S j (vals j) w) → OpTo P ⟨d, op, ty, p, af, some (g, b)⟩ (envA ops vals e0 k) w (fun v w' => Keep K w w' ∧ J (don done k) (setv vals k v) w'))
    (r : RegJ P N ops Q K J e0 w0 l (k + 1) (setS S k (fun _ _ => True))) : RegJ P N ops Q K J e0 w0 (⟨d, op, ty, p, af, some (g, b)⟩ :: l) k S := by
  refine ⟨fun _ _ => True, fun _ _ _ h _ => h, fun done vals w hR hcl hdk hJ hdn hd => ?_, r⟩
  unfold OpG
  rw [wanted1 hg (hc vals w hd)]
  simp only [beq_self_eq_true, if_true]
  exact (h done vals w hR hcl hdk hJ hdn hd).mono fun v w' hv => ⟨hv.1, trivial, hv.2⟩
theorem rj_hv {d : Option Tmp} {op : Op} {ty : TypeId} {p : String} {af : Array Edge} {g : Nat} {b : Bool} {tt : Tmp} {t : Value} (hD : JOn D J) (hk : D k = false) (hg : (ops[g]?).bind (·.dst) = some tt)
    (hc : ∀ vals w, (∀ j, edgeOn ⟨d, op, ty, p, af, some (g, b)⟩ j = true → S j (vals j) w) → envA ops vals e0 k tt = .bool b)
    (h : ∀ done vals w, Keep K w0 w → J done vals w → (∀ j, edgeOn ⟨d, op, ty, p, af, some (g, b)⟩ j = true → done j = true) → (∀ j, edgeOn ⟨d, op, ty, p, af, some (g, b)⟩ j = true → S j (vals j) w) → OpVat P ⟨d, op, ty, p, af, some (g, b)⟩ (envA ops vals e0 k) w t)
    (r : RegJ P N ops Q K J e0 w0 l (k + 1) (setS S k (fun v _ => v = t))) : RegJ P N ops Q K J e0 w0 (⟨d, op, ty, p, af, some (g, b)⟩ :: l) k S := by
  refine ⟨_, fun _ _ _ h _ => h, fun done vals w hR hcl hdk hJ hdn hd => ?_, r⟩
  unfold OpG
  rw [wanted1 hg (hc vals w hd)]
  simp only [beq_self_eq_true, if_true]
  exact OpTo.of_v (h done vals w hR hJ hdn hd) ⟨Keep.refl _, rfl, hD.step hk hJ⟩
theorem rj_skip {d : Option Tmp} {op : Op} {ty : TypeId} {p : String} {af : Array Edge} {g : Nat} {b : Bool} {tt : Tmp} {u : Value} (hD : JOn D J) (hk : D k = false) (hg : (ops[g]?).bind (·.dst) = some tt)
    (hc : ∀ vals w, (∀ j, edgeOn ⟨d, op, ty, p, af, some (g, b)⟩ j = true → S j (vals j) w) → envA ops vals e0 k tt = u) (hb : isB u b = false)
    (r : RegJ P N ops Q K J e0 w0 l (k + 1) (setS S k (fun v _ => v = undef))) : RegJ P N ops Q K J e0 w0 (⟨d, op, ty, p, af, some (g, b)⟩ :: l) k S := by
  refine ⟨_, fun _ _ _ h _ => h, fun done vals w hR hcl hdk hJ hdn hd => ?_, r⟩
  unfold OpG
  rw [notWanted hg (hc vals w hd) hb]
  exact ⟨Keep.refl _, rfl, hD.step hk hJ⟩
end

/-! ### a chain of appends -/
def accV (v0 : Value) (as : List Nat) (vals : Nat → Value) : Nat → Value
  | 0 => v0
  | c + 1 => vals (as.getD c 0)
/-- as: the appends, one behind the other; ps: what draws what each appends (none: it was there before); xs: what each appends -/
def ChainJ {α : Type} (t : Ty α) (et : TypeId) (B0 B : Nat) (F G : Nat → Prop) (v0 : Value) (l0 : List α) (as : List Nat) (ps : List (Option Nat)) (xs : List (List α)) (done : Nat → Bool) (vals : Nat → Value) (w : World) : Prop :=
  ∃ c, c ≤ as.length ∧ (∀ i a, as[i]? = some a → (done a = true ↔ i < c)) ∧ OwV t et w B F (accV v0 as vals c) (l0 ++ (xs.take c).flatten) ∧ (B ≤ w.heap.size ∧ B0 ≤ w.heap.size ∧ ∀ b, (accV v0 as vals c).ownBlock = some b → v0.ownBlock = some b ∨ B0 ≤ b) ∧
    ∀ i p x, c ≤ i → ps[i]? = some (some p) → xs[i]? = some x → done p = true → SlV t w (fun b => G b ∧ (accV v0 as vals c).ownBlock ≠ some b ∧ b < w.heap.size) (vals p) x
def dOf (as : List Nat) (ps : List (Option Nat)) (i : Nat) : Bool := as.any (Nat.beq i) || ps.any (fun p => match p with | some j => Nat.beq i j | none => false)
theorem dOf_as {as : List Nat} {ps : List (Option Nat)} {i a : Nat} (h : as[i]? = some a) : dOf as ps a = true := by
  unfold dOf
  rw [Bool.or_eq_true]
  exact .inl (List.any_eq_true.2 ⟨a, List.mem_of_getElem? h, by simp⟩)
theorem dOf_ps {as : List Nat} {ps : List (Option Nat)} {i p : Nat} (h : ps[i]? = some (some p)) : dOf as ps p = true := by
  unfold dOf
  rw [Bool.or_eq_true]
  exact .inr (List.any_eq_true.2 ⟨some p, List.mem_of_getElem? h, by simp⟩)
theorem getD_of {as : List Nat} {c : Nat} (h : c < as.length) : as[c]? = some (as.getD c 0) := by simp [h]
theorem accV_congr {v0 : Value} {as : List Nat} {vals vals' : Nat → Value} {c : Nat} (hc : c ≤ as.length) (h : ∀ (i : Nat) (a : Nat), as[i]? = some a → vals a = vals' a) : accV v0 as vals c = accV v0 as vals' c := by
  cases c with
  | zero => rfl
  | succ c => exact h c _ (getD_of hc)
section
variable {α : Type} {t : Ty α} {et : TypeId} {B0 B : Nat} {F G : Nat → Prop} {v0 : Value} {l0 : List α} {as : List Nat} {ps : List (Option Nat)} {xs : List (List α)}
theorem ChainJ.on : JOn (dOf as ps) (ChainJ t et B0 B F G v0 l0 as ps xs) := by
  rintro done vals done' vals' w h ⟨c, hc, h1, h2, hB, h3⟩
  have hv : accV v0 as vals c = accV v0 as vals' c := accV_congr hc fun i a ha => (h a (dOf_as ha)).2
  refine ⟨c, hc, fun i a ha => by rw [← (h a (dOf_as ha)).1]; exact h1 i a ha, by rw [← hv]; exact h2, by rw [← hv]; exact hB, fun i p x hi hp hx hd => ?_⟩
  have := h p (dOf_ps hp)
  rw [← this.2, ← hv]
  exact h3 i p x hi hp hx (by rw [this.1]; exact hd)
theorem ChainJ.start {w : World} {done : Nat → Bool} {vals : Nat → Value} (h : OwV t et w B F v0 l0) (hB : B ≤ w.heap.size) (hB0 : B0 ≤ w.heap.size) (hd : ∀ i, dOf as ps i = true → done i = false) : ChainJ t et B0 B F G v0 l0 as ps xs done vals w :=
  ⟨0, Nat.zero_le _, fun i a ha => by rw [hd a (dOf_as ha)]; simp, by rw [List.take_zero]; simpa [accV] using h, ⟨hB, hB0, fun b h => .inl h⟩, fun i p x _ hp _ hdn => by rw [hd p (dOf_ps hp)] at hdn; cases hdn⟩
/-- a producer -/
theorem ChainJ.prod {w w' : World} {done : Nat → Bool} {vals : Nat → Value} {k : Nat} {r : Value} {n : Nat} {x : List α} (j : ChainJ t et B0 B F G v0 l0 as ps xs done vals w) (e : Ext w w') (hk : ps[n]? = some (some k)) (hx : xs[n]? = some x) (hone : ∀ i, ps[i]? = some (some k) → i = n) (has : ∀ a ∈ as, a ≠ k)
    (hr : SlV t w' (fun b => G b ∧ w.heap.size ≤ b) r x) : ChainJ t et B0 B F G v0 l0 as ps xs (don done k) (setv vals k r) w' := by
  obtain ⟨c, hc, h1, h2, hB, h3⟩ := j
  have hv : accV v0 as (setv vals k r) c = accV v0 as vals c := accV_congr hc fun i a ha => by simp [setv, has a (List.mem_of_getElem? ha)]
  have hs := e.size
  refine ⟨c, hc, fun i a ha => by simp only [don, if_neg (has a (List.mem_of_getElem? ha))]; exact h1 i a ha, by rw [hv]; exact h2.ext e, by rw [hv]; exact ⟨by omega, by omega, hB.2.2⟩, fun i p y hi hp hy hd => ?_⟩
  rw [hv]
  by_cases hpk : p = k
  · subst hpk
    have := hone i hp
    subst this
    rw [hx] at hy
    cases hy
    simp only [setv, if_true]
    exact hr.mono fun b hb hF => ⟨hF.1, fun ho => by have := (h2.own_lt ho).2; omega, hb⟩
  · simp only [don, setv, if_neg hpk] at hd ⊢
    exact ((h3 i p y hi hp hy hd).ext e).mono fun b hb h => ⟨h.1, h.2.1, hb⟩
/-- how far it has come, told by the next append's being ready -/
theorem ChainJ.at {w : World} {done : Nat → Bool} {vals : Nat → Value} {k n : Nat} (j : ChainJ t et B0 B F G v0 l0 as ps xs done vals w) (hk : as[n]? = some k) (hd : done k = false) (hprev : ∀ m, n = m + 1 → ∃ a, as[m]? = some a ∧ done a = true) :
    OwV t et w B F (accV v0 as vals n) (l0 ++ (xs.take n).flatten) ∧ (∀ b, (accV v0 as vals n).ownBlock = some b → v0.ownBlock = some b ∨ B0 ≤ b) ∧ (∀ p x, ps[n]? = some (some p) → xs[n]? = some x → done p = true → SlV t w (fun b => G b ∧ (accV v0 as vals n).ownBlock ≠ some b ∧ b < w.heap.size) (vals p) x) := by
  obtain ⟨c, hc, h1, h2, hB, h3⟩ := j
  have hcn : c = n := by
    have h4 : ¬ n < c := fun h => by have := (h1 n k hk).2 h; rw [hd] at this; cases this
    rcases Nat.lt_or_ge c n with h | h
    · obtain ⟨m, rfl⟩ : ∃ m, n = m + 1 := ⟨n - 1, by omega⟩
      obtain ⟨a, ha, hda⟩ := hprev m rfl
      have := (h1 m a ha).1 hda
      omega
    · omega
  subst hcn
  exact ⟨h2, hB.2.2, fun p x hp hx hd => h3 c p x (Nat.le_refl _) hp hx hd⟩
/-- the append itself -/
theorem ChainJ.app {w w' : World} {done : Nat → Bool} {vals : Nat → Value} {k n : Nat} {r : Value} {x : List α} (j : ChainJ t et B0 B F G v0 l0 as ps xs done vals w) (hk : as[n]? = some k) (hd : done k = false) (hprev : ∀ m, n = m + 1 → ∃ a, as[m]? = some a ∧ done a = true) (hx : xs[n]? = some x)
    (hinj : ∀ i, as[i]? = some k → i = n) (hps : ∀ p, some p ∈ ps → p ≠ k)
    (o : OwV t et w' B F r (l0 ++ (xs.take n).flatten ++ x)) (kk : Keep (fun b => (accV v0 as vals n).ownBlock = some b) w w') (hown : ∀ b, r.ownBlock = some b → (accV v0 as vals n).ownBlock = some b ∨ w.heap.size ≤ b) : ChainJ t et B0 B F G v0 l0 as ps xs (don done k) (setv vals k r) w' := by
  have hn := (List.getElem?_eq_some_iff.1 hk).1
  obtain ⟨c, hc, h1, h2, hB, h3⟩ := j
  have hcn : c = n := by
    have h4 : ¬ n < c := fun h => by have := (h1 n k hk).2 h; rw [hd] at this; cases this
    rcases Nat.lt_or_ge c n with h | h
    · obtain ⟨m, rfl⟩ : ∃ m, n = m + 1 := ⟨n - 1, by omega⟩
      obtain ⟨a, ha, hda⟩ := hprev m rfl
      have := (h1 m a ha).1 hda
      omega
    · omega
  subst hcn
  have hs := kk.size
  have hkg : as.getD c 0 = k := by simp [List.getD, hk]
  have hacc : accV v0 as (setv vals k r) (c + 1) = r := by show setv vals k r (as.getD c 0) = r; rw [hkg]; simp [setv]
  refine ⟨c + 1, hn, fun i a ha => ?_, ?_, ⟨by omega, by omega, fun b hb => ?_⟩, fun i p y hi hp hy hdp => ?_⟩
  · by_cases hak : a = k
    · subst hak; have := hinj i ha; simp [don]; omega
    · simp only [don, if_neg hak]
      rw [h1 i a ha]
      constructor
      · omega
      · intro h
        rcases Nat.lt_or_ge i c with h' | h'
        · exact h'
        · have : i = c := by omega
          subst this; rw [hk] at ha; cases ha; exact absurd rfl hak
  · rw [hacc]
    have : (xs.take (c + 1)).flatten = (xs.take c).flatten ++ x := by rw [List.take_add_one, hx]; simp
    rw [this, ← List.append_assoc]; exact o
  · rw [hacc] at hb
    rcases hown b hb with h | h
    · exact hB.2.2 b h
    · right; omega
  · have hpk : p ≠ k := hps p (List.mem_of_getElem? hp)
    rw [hacc]
    simp only [don, setv, if_neg hpk] at hdp ⊢
    exact ((h3 i p y (by omega) hp hy hdp).keep kk fun b hb h ho => h.2.1 ho).mono fun b hb h => ⟨h.1, fun ho => by rcases hown b ho with h' | h'; exact h.2.1 h'; omega, hb⟩
theorem dOf_lt {as : List Nat} {ps : List (Option Nat)} {m : Nat} (h : (as.all (fun a => Nat.blt a m) && ps.all (fun p => match p with | some a => Nat.blt a m | none => true)) = true) {i : Nat} (hi : dOf as ps i = true) : i < m := by
  rw [Bool.and_eq_true] at h
  unfold dOf at hi
  rw [Bool.or_eq_true] at hi
  rcases hi with hi | hi
  · obtain ⟨a, ha, hb⟩ := List.any_eq_true.1 hi
    have := List.all_eq_true.1 h.1 a ha
    rw [Nat.eq_of_beq_eq_true hb]
    (have h5 := this; simp [Nat.blt] at h5; omega)
  · obtain ⟨a, ha, hb⟩ := List.any_eq_true.1 hi
    have := List.all_eq_true.1 h.2 a ha
    cases a with
    | none => cases hb
    | some a =>
      simp only at hb this
      rw [Nat.eq_of_beq_eq_true hb]
      (have h5 := this; simp [Nat.blt] at h5; omega)
theorem once_as {as : List Nat} {k n : Nat} (h : (List.range as.length).all (fun i => !(Nat.beq (as.getD i 0) k) || Nat.beq i n) = true) : ∀ i : Nat, as[i]? = some k → i = n := by
  intro i hi
  have hlt := (List.getElem?_eq_some_iff.1 hi).1
  have := List.all_eq_true.1 h i (List.mem_range.2 hlt)
  have hg : as.getD i 0 = k := by simp [List.getD, hi]
  rw [hg] at this
  simpa using this
theorem once_ps {ps : List (Option Nat)} {k n : Nat} (h : (List.range ps.length).all (fun i => (match ps.getD i none with | some j => !(Nat.beq j k) | none => true) || Nat.beq i n) = true) : ∀ i : Nat, ps[i]? = some (some k) → i = n := by
  intro i hi
  have hlt := (List.getElem?_eq_some_iff.1 hi).1
  have := List.all_eq_true.1 h i (List.mem_range.2 hlt)
  have hg : ps.getD i none = some k := by simp [List.getD, hi]
  rw [hg] at this
  simpa using this
theorem ChainJ.fin {w : World} {vals : Nat → Value} (j : ChainJ t et B0 B F G v0 l0 as ps xs (fun _ => true) vals w) (hl : xs.length ≤ as.length) : OwV t et w B F (accV v0 as vals as.length) (l0 ++ xs.flatten) := by
  obtain ⟨c, hc, h1, h2, hB, h3⟩ := j
  have : c = as.length := by
    rcases Nat.lt_or_ge c as.length with h | h
    · have := (h1 c _ (getD_of h)).1 rfl; omega
    · omega
  subst this
  rwa [List.take_of_length_le hl] at h2
end
/-- what was moved on -/
def EqJ (q : List (Nat × Nat)) (J : (Nat → Bool) → (Nat → Value) → World → Prop) (done : Nat → Bool) (vals : Nat → Value) (w : World) : Prop :=
  J done vals w ∧ ∀ k j, (k, j) ∈ q → done k = true → done j = true ∧ vals k = vals j
def dQ (q : List (Nat × Nat)) (D : Nat → Bool) (i : Nat) : Bool := D i || q.any (fun p => Nat.beq i p.1 || Nat.beq i p.2)
theorem EqJ.on {q : List (Nat × Nat)} {D : Nat → Bool} {J : (Nat → Bool) → (Nat → Value) → World → Prop} (h : JOn D J) : JOn (dQ q D) (EqJ q J) := by
  rintro done vals done' vals' w hd ⟨h1, h2⟩
  refine ⟨h _ _ _ _ w (fun i hi => hd i (by simp [dQ, hi])) h1, fun k j hq hk => ?_⟩
  have e1 := hd k (by unfold dQ; rw [Bool.or_eq_true]; exact .inr (List.any_eq_true.2 ⟨(k, j), hq, by simp⟩))
  have e2 := hd j (by unfold dQ; rw [Bool.or_eq_true]; exact .inr (List.any_eq_true.2 ⟨(k, j), hq, by simp⟩))
  obtain ⟨a, b⟩ := h2 k j hq (by rw [e1.1]; exact hk)
  exact ⟨by rw [← e2.1]; exact a, by rw [← e1.2, ← e2.2]; exact b⟩
theorem EqJ.start {q : List (Nat × Nat)} {J : (Nat → Bool) → (Nat → Value) → World → Prop} {done : Nat → Bool} {vals : Nat → Value} {w : World} (h : J done vals w) (hd : ∀ k j, (k, j) ∈ q → done k = false) : EqJ q J done vals w :=
  ⟨h, fun k j hq hk => by rw [hd k j hq] at hk; cases hk⟩
theorem EqJ.step {q : List (Nat × Nat)} {J : (Nat → Bool) → (Nat → Value) → World → Prop} {done : Nat → Bool} {vals : Nat → Value} {w w' : World} {i : Nat} {v : Value} (h : EqJ q J done vals w) (hi : done i = false) (hq : ∀ p ∈ q, p.1 ≠ i) (h1 : J (don done i) (setv vals i v) w') : EqJ q J (don done i) (setv vals i v) w' := by
  refine ⟨h1, fun k j hm hk => ?_⟩
  have hki : k ≠ i := hq _ hm
  simp only [don, if_neg hki] at hk
  obtain ⟨a, b⟩ := h.2 k j hm hk
  have hji : j ≠ i := fun he => by subst he; rw [hi] at a; cases a
  simp only [don, setv, if_neg hki, if_neg hji]
  exact ⟨a, b⟩
theorem EqJ.mv {q : List (Nat × Nat)} {D : Nat → Bool} {J : (Nat → Bool) → (Nat → Value) → World → Prop} {done : Nat → Bool} {vals : Nat → Value} {w : World} {i j : Nat} (h : EqJ q J done vals w) (hJ : JOn D J) (hD : D i = false) (hi : done i = false) (hj : done j = true) (hq : ∀ p ∈ q, p.1 = i → p.2 = j) : EqJ q J (don done i) (setv vals i (vals j)) w := by
  refine ⟨hJ.step hD h.1, fun k l hm hk => ?_⟩
  have hji : j ≠ i := fun he => by subst he; rw [hi] at hj; cases hj
  by_cases hki : k = i
  · have := hq _ hm hki
    simp only at this
    subst this hki
    simp only [don, setv, if_neg hji, if_true]
    exact ⟨hj, trivial⟩
  · simp only [don, if_neg hki] at hk
    obtain ⟨a, b⟩ := h.2 k l hm hk
    have hli : l ≠ i := fun he => by subst he; rw [hi] at a; cases a
    simp only [don, setv, if_neg hki, if_neg hli]
    exact ⟨a, b⟩
theorem ps_ne {ps : List (Option Nat)} {k : Nat} (h : (ps.all fun p => match p with | some j => !(Nat.beq j k) | none => true) = true) : ∀ p, some p ∈ ps → p ≠ k := by
  intro p hp he
  subst he
  have := List.all_eq_true.1 h _ hp
  simp at this
theorem dQ_lt {q : List (Nat × Nat)} {m : Nat} (h : (q.all fun p => Nat.blt p.1 m) = true) : ∀ k j, (k, j) ∈ q → k < m := by
  intro k j hq
  have h5 := List.all_eq_true.1 h _ hq
  simp [Nat.blt] at h5; omega
theorem fin_nilJ {N : Nat} {Q : Exit → Act → World → Prop} {S : Nat → Value → World → Prop} {vals : Nat → Value} {k : Nat} {e : Nat → Value} {w : World} (h : Q .normal (Fr N e) w) : FinJ N Q S vals [] k e w := h
end Go.Vc
