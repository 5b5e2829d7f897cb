/- A part of the proof: steps and lemmas for the walks through the given program. -/
import Derived.Test.YtifnkmflmgnfjaaGy
import Derived.Test.YtifnkmflmgnfjaaVc35
import Derived.RecoverIn
namespace Go.Vc
set_option linter.unusedVariables false
theorem Ch1J.srcE {a k : Nat} {R0 : World → Prop} {R1 : Value → World → Prop} {done : Nat → Bool} {vals : Nat → Value} {w w' : World} {v : Value} (h0 : ∀ w w', Ext w w' → R0 w → R0 w') (h1 : ∀ v w w', Ext w w' → R1 v w → R1 v w') (j : Ch1J a R0 R1 done vals w) (e : Ext w w') (ha : a ≠ k) : Ch1J a R0 R1 (don done k) (setv vals k v) w' := by
  refine Ch1J.src ?_ ha
  unfold Ch1J at *
  by_cases hd : done a = true
  · rw [if_pos hd] at *; exact h1 _ _ _ e j
  · rw [if_neg hd] at *; exact h0 _ _ e j
theorem pv_sub {w : World} {q : Addr} {cs : List Value} (off n : Nat) (h : Pv w q cs) : Pv w (q.add off) ((cs.drop off).take n) := fun j u hu => by
  rw [List.getElem?_take] at hu
  split at hu
  · rw [add_add]; exact h _ _ (by simpa using hu)
  · cases hu
end Go.Vc

namespace Go.Vc
set_option linter.unusedVariables false
set_option linter.unusedSimpArgs false

/-! ### calls that end in a panic; frames with deferred calls -/
/-- f called with args panics, with R of the chain -/
def CallsP (P : Program) (f : FuncId) (args : Array Value) (w : World) (R : List PanicEntry → World → Prop) : Prop := Calls P f args w (fun en w' => ∃ ch, en = .panicked ch ∧ R ch w')
theorem CallsP.mono {P : Program} {f : FuncId} {args : Array Value} {w : World} {R R' : List PanicEntry → World → Prop} (h : CallsP P f args w R) (hr : ∀ v w', R v w' → R' v w') : CallsP P f args w R' :=
  Calls.mono h fun _ _ ⟨v, he, hv⟩ => ⟨v, he, hr _ _ hv⟩
section
variable {P : Program} {d : Option Tmp} {ty : TypeId} {p : String} {af : Array Edge} {g : Option (Nat × Bool)} {e : Nat → Value} {w : World} {K : List PanicEntry → World → Prop} {f : Operand} {x0 x1 x2 x3 x4 x5 : Operand} {v0 v1 v2 v3 v4 v5 : Value} {fn : Nat} {cap fst : Array Value} {ts : Array TypeId}
end

section
variable {ro : Option Nat} {m : Nat} {ds : List Deferred} {P : Program} {N : Nat} {Q : Exit → Act → World → Prop} {e : Nat → Value} {w : World} {a : Act} {X Y : Code} {fn : Func} {Kn : Act → World → Prop} {ch : List PanicEntry}
end

/-- f returns, with Rr, or panics, with Rp -/
def UR (Rr : Value → World → Prop) (Rp : List PanicEntry → World → Prop) : Ending → World → Prop := fun en w => (∃ v, en = .returned v ∧ Rr v w) ∨ (∃ ch, en = .panicked ch ∧ Rp ch w)
def CallsU (P : Program) (f : FuncId) (args : Array Value) (w : World) (Rr : Value → World → Prop) (Rp : List PanicEntry → World → Prop) : Prop := Calls P f args w (UR Rr Rp)
theorem CallsU.r {P : Program} {f : FuncId} {args : Array Value} {w : World} {Rr R : Value → World → Prop} {Rp : List PanicEntry → World → Prop} (h : CallsU P f args w Rr Rp) (hr : ∀ v w', Rr v w' → R v w') (hp : ∀ ch w', ¬ Rp ch w') : CallsR P f args w R :=
  Calls.mono h fun _ _ h => h.elim (fun ⟨v, he, hv⟩ => ⟨v, he, hr _ _ hv⟩) (fun ⟨ch, _, h⟩ => (hp _ _ h).elim)
theorem CallsU.p {P : Program} {f : FuncId} {args : Array Value} {w : World} {Rr : Value → World → Prop} {Rp R : List PanicEntry → World → Prop} (h : CallsU P f args w Rr Rp) (hr : ∀ v w', ¬ Rr v w') (hp : ∀ ch w', Rp ch w' → R ch w') : CallsP P f args w R :=
  Calls.mono h fun _ _ h => h.elim (fun ⟨v, _, hv⟩ => (hr _ _ hv).elim) (fun ⟨ch, he, h⟩ => ⟨ch, he, hp _ _ h⟩)
end Go.Vc

namespace Go.Vc
set_option linter.unusedVariables false
set_option linter.unusedSimpArgs false
/-! ### a region of any order, cut where guards of the later part lie in the earlier one and are known to hold -/
def InvG (m : Nat) (ops : Array Oper) (a : Act) : Prop := ∀ (j : Nat) (o : Oper) (g : Nat × Bool), ops[m + j]? = some o → o.guard = some g → g.1 < m → yielded ops a.tmps g.1 = some g.2
theorem InvG.put {m : Nat} {ops : Array Oper} {a a' : Act} {d : Option Tmp} (h : InvG m ops a) (hd : ∀ j' o' g, ops[m + j']? = some o' → o'.guard = some g → g.1 < m → ∀ t, (ops[g.1]?).bind (·.dst) = some t → d ≠ some t) (hp : ∀ t, d ≠ some t → a'.tmps[t]? = a.tmps[t]?) : InvG m ops a' := by
  intro j o g ho hg hm
  rw [← h j o g ho hg hm]
  unfold yielded
  cases hdst : (ops[g.1]?).bind (·.dst) with
  | none => rfl
  | some t => simp only [Option.bind_some]; rw [hp t (hd j o g ho hg hm t hdst)]
section
variable {ro : Option Nat} {n : Nat} {P : Program} {Q : Exit → Act → World → Prop}
end
theorem SlV.pre {α : Type} {t : Ty α} {w : World} {F : Nat → Prop} {a : Option Addr} {n c h : Nat} {xs : List α} (hv : SlV t w F (.slice a n c) xs) (hh : h ≤ xs.length) : SlV t w F (.slice a h c) (xs.take h) := by
  obtain ⟨a', c', hv', h1, h2, h3, h4⟩ := hv
  cases hv'
  have hlen : (xs.take h).length = h := by simp; omega
  refine ⟨_, _, by rw [hlen], by rw [hlen]; omega, by omega, ?_, ?_⟩
  · intro hn; have := h3 hn; omega
  · intro i y hy
    have hi : i < h := by have := (List.getElem?_eq_some_iff.1 hy).1; rw [hlen] at this; exact this
    rw [List.getElem?_take, if_pos hi] at hy
    exact h4 _ _ hy
end Go.Vc

namespace Go.Vc
set_option linter.unusedVariables false
set_option linter.unusedSimpArgs false
/-! ### stores into one block, one behind the other, within a drawn stage: what the block holds after each is known -/
def BcJ (b : Nat) (T : TypeId) (as : List Nat) (css : List (List Value)) (done : Nat → Bool) (vals : Nat → Value) (w : World) : Prop :=
  ∃ c, c ≤ as.length ∧ (∀ i a, as[i]? = some a → (done a = true ↔ i < c)) ∧ Blk w b (css.getD c []) T
section
variable {b : Nat} {T : TypeId} {as : List Nat} {css : List (List Value)} {done : Nat → Bool} {vals : Nat → Value} {w w' : World}
theorem BcJ.start {cs : List Value} (h : Blk w b cs T) (h0 : css.getD 0 [] = cs) (hd : ∀ a ∈ as, done a = false) : BcJ b T as css done vals w :=
  ⟨0, Nat.zero_le _, fun i a ha => by rw [hd a (List.mem_of_getElem? ha)]; simp, by rw [h0]; exact h⟩
theorem BcJ.src {k : Nat} {v : Value} (j : BcJ b T as css done vals w) (e : Ext w w') (hk : (as.all fun a => !(Nat.beq a k)) = true) : BcJ b T as css (don done k) (setv vals k v) w' := by
  obtain ⟨c, hc, h1, h3⟩ := j
  refine ⟨c, hc, fun i a ha => ?_, h3.ext e⟩
  have hne : a ≠ k := fun he => by
    have := List.all_eq_true.1 hk a (List.mem_of_getElem? ha)
    rw [he] at this; simp at this
  simp only [don, if_neg hne]; exact h1 i a ha
theorem BcJ.at {n k : Nat} (j : BcJ b T as css done vals w) (hk : as[n]? = some k) (hd : done k = false) (hp : ∀ m, n = m + 1 → ∃ a, as[m]? = some a ∧ done a = true) : Blk w b (css.getD n []) T := by
  obtain ⟨c, hc, h1, h3⟩ := j
  have a1 : ¬ n < c := fun h => by have := (h1 n _ hk).2 h; rw [hd] at this; cases this
  have a2 : n ≤ c := by
    cases n with
    | zero => exact Nat.zero_le _
    | succ m => obtain ⟨a, ha, hda⟩ := hp m rfl; exact (h1 m a ha).1 hda
  have : c = n := by omega
  subst this; exact h3
theorem BcJ.step {n k : Nat} {u : Value} (j : BcJ b T as css done vals w) (hk : as[n]? = some k) (hd : done k = false) (hp : ∀ m, n = m + 1 → ∃ a, as[m]? = some a ∧ done a = true)
    (hone : ((List.range as.length).all fun i => !(Nat.beq (as.getD i 0) k) || Nat.beq i n) = true) (hB : Blk w' b (css.getD (n + 1) []) T) : BcJ b T as css (don done k) (setv vals k u) w' := by
  obtain ⟨c, hc, h1, h3⟩ := j
  have a1 : ¬ n < c := fun h => by have := (h1 n _ hk).2 h; rw [hd] at this; cases this
  have a2 : n ≤ c := by
    cases n with
    | zero => exact Nat.zero_le _
    | succ m => obtain ⟨a, ha, hda⟩ := hp m rfl; exact (h1 m a ha).1 hda
  have : c = n := by omega
  subst this
  have hlt := (List.getElem?_eq_some_iff.1 hk).1
  refine ⟨c + 1, by omega, fun i a ha => ?_, hB⟩
  by_cases hak : a = k
  · have hil := (List.getElem?_eq_some_iff.1 ha).1
    have := List.all_eq_true.1 hone i (List.mem_range.2 hil)
    have h9 : as.getD i 0 = a := by simp [List.getD, ha]
    rw [h9, hak] at this
    have hi : i = c := by simpa using this
    simp [don, hak, hi]
  · simp only [don, if_neg hak]
    rw [h1 i a ha]
    constructor
    · intro h; omega
    · intro h
      rcases Nat.lt_or_ge i c with h' | h'
      · exact h'
      · have : i = c := by omega
        subst this; rw [hk] at ha; cases ha; exact absurd rfl hak
theorem BcJ.fin {n : Nat} (j : BcJ b T as css (fun _ => true) vals w) (hn : as.length = n) : Blk w b (css.getD n []) T := by
  obtain ⟨c, hc, h1, h3⟩ := j
  have : c = n := by
    rcases Nat.lt_or_ge c as.length with h | h
    · have := (h1 c _ (List.getElem?_eq_getElem h)).1 rfl; omega
    · omega
  subst this; exact h3
end
theorem one_all {cs : List Value} (h : (cs.all fun u => u.oneCell') = true) : ∀ u ∈ cs, u.oneCell' = true := fun u hu => List.all_eq_true.1 h u hu
section
variable {P : Program} {N : Nat} {ops : Array Oper} {Q : Exit → Act → World → Prop} {K : Nat → Prop} {J : (Nat → Bool) → (Nat → Value) → World → Prop} {D : Nat → Bool} {e0 : Nat → Value} {w0 : World} {l : List Oper} {k : Nat} {S : Nat → Value → World → Prop}
end
end Go.Vc
