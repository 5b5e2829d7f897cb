/- A part of the proof: steps and lemmas for the walks through the given program. -/
import Derived.Test.YtkaangdfpjkjpaaVc2
namespace Go.Vc
set_option linter.unusedVariables false

/-- Old blocks outside K are as they were. -/
structure Keep (K : Nat → Prop) (w w' : World) : Prop where
  os : w'.os = w.os
  tape : w'.tape = w.tape
  output : w'.output = w.output
  size : w.heap.size ≤ w'.heap.size
  block : ∀ k, k < w.heap.size → ¬ K k → w'.heap[k]? = w.heap[k]?

theorem Keep.refl {K : Nat → Prop} (w : World) : Keep K w w := ⟨rfl, rfl, rfl, Nat.le_refl _, fun _ _ _ => rfl⟩
theorem Keep.trans {K : Nat → Prop} {a b c : World} (h : Keep K a b) (k : Keep K b c) : Keep K a c :=
  ⟨k.os.trans h.os, k.tape.trans h.tape, k.output.trans h.output, Nat.le_trans h.size k.size, fun i hi hk => (k.block i (Nat.lt_of_lt_of_le hi h.size) hk).trans (h.block i hi hk)⟩
theorem Keep.mono {K K' : Nat → Prop} {a b : World} (h : Keep K a b) (hk : ∀ i, i < a.heap.size → K i → K' i) : Keep K' a b := ⟨h.os, h.tape, h.output, h.size, fun i hi hn => h.block i hi (fun x => hn (hk i hi x))⟩
theorem Keep.drawn {K : Nat → Prop} (w : World) (n : Nat) : Keep K w { w with drawn := n } := ⟨rfl, rfl, rfl, Nat.le_refl _, fun _ _ _ => rfl⟩
/-- nothing old is touched -/
def NoK : Nat → Prop := fun _ => False
abbrev Ext (w w' : World) : Prop := Keep NoK w w'
theorem Ext.keep {K : Nat → Prop} {a b : World} (h : Ext a b) : Keep K a b := h.mono fun _ _ x => x.elim
theorem Keep.keep {K : Nat → Prop} {a b : World} (h : Keep NoK a b) : Keep K a b := h.mono fun _ _ x => x.elim
theorem Ext.blk {a b : World} (h : Ext a b) {k : Nat} (hk : k < a.heap.size) : b.heap[k]? = a.heap[k]? := h.block k hk (fun x => x)
theorem Ext.cell {a b : World} (h : Ext a b) {p : Addr} {v : Value} (hc : a.cell? p = some v) : b.cell? p = some v := by
  have hlt := World.block_lt_of_cell? a p hc
  rw [World.cell?_of_block (h.blk hlt)]; exact hc
theorem Keep.cell {K : Nat → Prop} {a b : World} (h : Keep K a b) {p : Addr} {v : Value} (hc : a.cell? p = some v) (hk : ¬ K p.block) : b.cell? p = some v := by
  have hlt := World.block_lt_of_cell? a p hc
  rw [World.cell?_of_block (h.block _ hlt hk)]; exact hc
theorem Ext.below {a b : World} (h : Ext a b) : RowKit.Below a.heap.size a b := ⟨h.os, h.tape, h.output, h.size, fun k hk => h.blk hk⟩

def allT : Nat → Bool := fun _ => true
def setS (S : Nat → Value → World → Prop) (k : Nat) (Sk : Value → World → Prop) : Nat → Value → World → Prop := fun j => bif Nat.beq j k then Sk else S j
theorem setS_ne {S : Nat → Value → World → Prop} {k j : Nat} {Sk : Value → World → Prop} (h : j ≠ k) : setS S k Sk j = S j := by
  have : Nat.beq j k = false := by
    cases hb : Nat.beq j k with
    | false => rfl
    | true => exact absurd (Nat.eq_of_beq_eq_true hb) h
  simp only [setS, this, cond_false]
theorem setS_same {S : Nat → Value → World → Prop} {k : Nat} {Sk : Value → World → Prop} : setS S k Sk k = Sk := by simp [setS]

def FinT (N : Nat) (Q : Exit → Act → World → Prop) (S : Nat → Value → World → Prop) : List Oper → Nat → (Nat → Value) → World → Prop
  | [], _, e, w => Q .normal (Fr N e) w
  | o :: l, k, e, w => ∀ v, S k v w → FinT N Q S l (k + 1) (updo e o.dst v) w

/-- the frame that operation number k of a region sees -/
abbrev envA (ops : Array Oper) (vals e0 : Nat → Value) (k : Nat) : Nat → Value := envL ops allT vals e0 k

def RegT (P : Program) (N : Nat) (ops : Array Oper) (Q : Exit → Act → World → Prop) (K : Nat → Prop) (e0 : Nat → Value) (w0 : World) : List Oper → Nat → (Nat → Value → World → Prop) → Prop
  | [], k, S => ∀ w, Keep K w0 w → FinT N Q S ops.toList 0 e0 w
  | o :: l, k, S => ∃ Sk : Value → World → Prop, (∀ v w w', Sk v w → Keep K w w' → Sk v w') ∧
      (∀ vals w, Keep K w0 w → (∀ j, edgeOn o j = true → S j (vals j) w) → OpG P ops (envA ops vals e0 k) o w (fun v w' => Keep K w w' ∧ Sk v w')) ∧
      RegT P N ops Q K e0 w0 l (k + 1) (setS S k Sk)

theorem finT_vals {N : Nat} {Q : Exit → Act → World → Prop} {S : Nat → Value → World → Prop} {ops : Array Oper} {vals : Nat → Value} {e0 : Nat → Value} {w : World} : ∀ (l : List Oper) (k : Nat), (∀ j, l[j]? = ops[k + j]?) →
    FinT N Q S l k (envA ops vals e0 k) w → (∀ i, i < k + l.length → S i (vals i) w) → Q .normal (Fr N (envA ops vals e0 (k + l.length))) w
  | [], k, _, h, _ => h
  | o :: l, k, hl, h, hS => by
    have h0 : ops[k]? = some o := by simpa using (hl 0).symm
    have hk := h (vals k) (hS k (by simp))
    have he : updo (envA ops vals e0 k) o.dst (vals k) = envA ops vals e0 (k + 1) := by simp [envA, envL, allT, dstAt, h0]
    rw [he] at hk
    have := finT_vals l (k + 1) (fun j => by have := hl (j + 1); simpa [Nat.add_assoc, Nat.add_comm 1 j] using this) hk (fun i hi => hS i (by simp; omega))
    have e2 : k + 1 + l.length = k + (o :: l).length := by simp; omega
    rw [e2] at this
    exact this

theorem regT_sound {P : Program} {N : Nat} {ops : Array Oper} {Q : Exit → Act → World → Prop} {K : Nat → Prop} {e0 : Nat → Value} {w0 : World} (hok : okR ops = true) : ∀ (l : List Oper) (k : Nat) (S : Nat → Value → World → Prop), (∀ j, l[j]? = ops[k + j]?) → RegT P N ops Q K e0 w0 l k S →
    (∀ i v w w', S i v w → Keep K w w' → S i v w') →
    (∀ i o, i < k → ops[i]? = some o → ∀ vals w, Keep K w0 w → (∀ j, edgeOn o j = true → S j (vals j) w) → OpG P ops (envA ops vals e0 i) o w (fun v w' => Keep K w w' ∧ S i v w')) →
    ∃ S' : Nat → Value → World → Prop, (∀ i v w w', S' i v w → Keep K w w' → S' i v w') ∧
      (∀ i o, ops[i]? = some o → ∀ vals w, Keep K w0 w → (∀ j, edgeOn o j = true → S' j (vals j) w) → OpG P ops (envA ops vals e0 i) o w (fun v w' => Keep K w w' ∧ S' i v w')) ∧
      (∀ w, Keep K w0 w → FinT N Q S' ops.toList 0 e0 w)
  | [], k, S, hl, h, hst, hlo => by
    refine ⟨S, hst, fun i o hi => ?_, h⟩
    have hlt : i < ops.size := (Array.getElem?_eq_some_iff.1 hi).1
    by_cases hik : i < k
    · exact hlo i o hik hi
    · have := hl (i - k)
      rw [show k + (i - k) = i by omega, hi] at this
      simp at this
  | o :: l, k, S, hl, ⟨Sk, hsk, hop, hrest⟩, hst, hlo => by
    have h0 : ops[k]? = some o := by simpa using (hl 0).symm
    have hedge : ∀ i oi, ops[i]? = some oi → ∀ j, edgeOn oi j = true → j < i := by
      intro i oi hi j hj
      obtain ⟨e, he, hb⟩ := edgeOn_iff hj
      simp only [Bool.and_eq_true] at hb
      have := okR_edges hok hi e he hb.1
      rwa [Nat.eq_of_beq_eq_true hb.2] at this
    refine regT_sound hok l (k + 1) (setS S k Sk) (fun j => by have := hl (j + 1); simpa [Nat.add_assoc, Nat.add_comm 1 j] using this) hrest ?_ ?_
    · intro i v w w' hs hkw
      by_cases hik : i = k
      · subst hik; rw [setS_same] at hs ⊢; exact hsk v w w' hs hkw
      · rw [setS_ne hik] at hs ⊢; exact hst i v w w' hs hkw
    · intro i oi hi hoi vals w hR hd
      by_cases hik : i = k
      · subst hik
        rw [h0] at hoi; cases hoi
        rw [setS_same]
        exact hop vals w hR fun j hj => by
          have hlt := hedge i o h0 j hj
          have := hd j hj
          rwa [setS_ne (by omega)] at this
      · rw [setS_ne hik]
        exact hlo i oi (by omega) hoi vals w hR fun j hj => by
          have hlt := hedge i oi hoi j hj
          have := hd j hj
          rwa [setS_ne (by omega)] at this

def noS : Nat → Value → World → Prop := fun _ _ _ => True

theorem wp_regd {ro : Option Nat} {n : Nat} {ds : List Deferred} {P : Program} {N : Nat} {l : List Oper} {id : Nat} {Q : Exit → Act → World → Prop} {e : Nat → Value} {w : World} (K : Nat → Prop) (hm : P.follows .mixedOrders = true) (hl : opsLt N l.toArray = true) (hok : okR l.toArray = true)
    (h : RegT P N l.toArray (Qd ds Q) K e w l 0 noS) : (Code.region id l.toArray true).wpIn (Fw ro) n P Q (FrD N e ds) w := by
  obtain ⟨S, h1, h2, h3⟩ := regT_sound hok l 0 noS (by simp) h (fun _ _ _ _ _ _ => trivial) (fun i o hi => by omega)
  refine reg_any (R := Keep K) S hm hl hok (fun _ _ _ => Keep.trans) (Keep.drawn _ _) (Keep.refl _) h1 h2 fun vals w' hR hS => ?_
  have h4 : FinT N (Qd ds Q) S l 0 (envA l.toArray vals e 0) w' := h3 w' hR
  have := finT_vals (ops := l.toArray) (vals := vals) l 0 (by simp) h4 (fun i hi => hS i (by simpa using hi))
  rw [Nat.zero_add] at this
  exact this

theorem wp_regdW {ro : Option Nat} {n : Nat} {ds : List Deferred} {P : Program} {N : Nat} {l : List Oper} {Q : Exit → Act → World → Prop} {e : Nat → Value} {w : World} (K : Nat → Prop) (hl : opsLt N l.toArray = true) (hok : okR l.toArray = true)
    (h : RegT P N l.toArray (Qd ds Q) K e w l 0 noS) : wpR ro n P l.toArray Q (FrD N e ds) w := by
  obtain ⟨S, h1, h2, h3⟩ := regT_sound hok l 0 noS (by simp) h (fun _ _ _ _ _ _ => trivial) (fun i o hi => by omega)
  refine reg_anyW (R := Keep K) S hl hok (fun _ _ _ => Keep.trans) (Keep.refl _) h1 h2 fun vals w' hR hS => ?_
  have h4 : FinT N (Qd ds Q) S l 0 (envA l.toArray vals e 0) w' := h3 w' hR
  have := finT_vals (ops := l.toArray) (vals := vals) l 0 (by simp) h4 (fun i hi => hS i (by simpa using hi))
  rw [Nat.zero_add] at this
  exact this

section
variable {P : Program} {N : Nat} {ops : Array Oper} {Q : Exit → Act → World → Prop} {K : Nat → Prop} {e0 : Nat → Value} {w0 : World} {l : List Oper} {k : Nat} {S : Nat → Value → World → Prop}

theorem rt_nil (h : ∀ w, Keep K w0 w → FinT N Q S ops.toList 0 e0 w) : RegT P N ops Q K e0 w0 [] k S := h

/-- a step whose value is known -/
theorem rt_v {d : Option Tmp} {op : Op} {ty : TypeId} {p : String} {af : Array Edge} {t : Value}
    (h : ∀ vals w, Keep K w0 w → (∀ j, edgeOn ⟨d, op, ty, p, af, none⟩ j = true → S j (vals j) w) → OpVat P ⟨d, op, ty, p, af, none⟩ (envA ops vals e0 k) w t)
    (r : RegT P N ops Q K e0 w0 l (k + 1) (setS S k (fun v _ => v = t))) : RegT P N ops Q K e0 w0 (⟨d, op, ty, p, af, none⟩ :: l) k S := by
  refine ⟨_, fun _ _ _ h _ => h, fun vals w hR hd => ?_, r⟩
  simp only [OpG, wantedE, Region.wanted, if_true]
  exact OpTo.of_v (h vals w hR hd) ⟨Keep.refl _, rfl⟩

/-- any step, with a fact that stays -/
theorem rt_to {d : Option Tmp} {op : Op} {ty : TypeId} {p : String} {af : Array Edge} (Sk : Value → World → Prop)
    (hs : ∀ v w w', Sk v w → Keep K w w' → Sk v w')
    (h : ∀ vals w, Keep K w0 w → (∀ j, edgeOn ⟨d, op, ty, p, af, none⟩ j = true → S j (vals j) w) → OpTo P ⟨d, op, ty, p, af, none⟩ (envA ops vals e0 k) w (fun v w' => Keep K w w' ∧ Sk v w'))
    (r : RegT P N ops Q K e0 w0 l (k + 1) (setS S k Sk)) : RegT P N ops Q K e0 w0 (⟨d, op, ty, p, af, none⟩ :: l) k S := by
  refine ⟨Sk, hs, fun vals w hR hd => ?_, r⟩
  simp only [OpG, wantedE, Region.wanted, if_true]
  exact h vals w hR hd

/-- guarded by an operation that is not itself guarded -/
theorem rt_g1 {d : Option Tmp} {op : Op} {ty : TypeId} {p : String} {af : Array Edge} {g : Nat} {b c : Bool} {tt : Tmp} {t : Value} (hg : (ops[g]?).bind (·.dst) = some tt)
    (hc : ∀ vals w, (∀ j, edgeOn ⟨d, op, ty, p, af, some (g, b)⟩ j = true → S j (vals j) w) → envA ops vals e0 k tt = .bool c)
    (h : ∀ vals w, Keep K w0 w → (∀ j, edgeOn ⟨d, op, ty, p, af, some (g, b)⟩ j = true → S j (vals j) w) → (c == b) = true → OpVat P ⟨d, op, ty, p, af, some (g, b)⟩ (envA ops vals e0 k) w t)
    (r : RegT P N ops Q K e0 w0 l (k + 1) (setS S k (fun v _ => v = bif (c == b) then t else undef))) : RegT P N ops Q K e0 w0 (⟨d, op, ty, p, af, some (g, b)⟩ :: l) k S := by
  refine ⟨_, fun _ _ _ h _ => h, fun vals w hR hd => ?_, r⟩
  have hy := yieldE_of hg (hc vals w hd)
  simp only [OpG, wantedE, Region.wanted, hy]
  by_cases hb : c = b
  · have hcb : (c == b) = true := by simp [hb]
    have : (some c == some b) = true := by simp [hb]
    rw [this]
    exact OpTo.of_v (h vals w hR hd hcb) ⟨Keep.refl _, by rw [hcb]; rfl⟩
  · have hcb : (c == b) = false := by simpa using hb
    have : (some c == some b) = false := by simpa using hb
    rw [this]
    exact ⟨Keep.refl _, by rw [hcb]; rfl⟩

/-- guarded by an operation that is itself guarded -/
theorem rt_g2 {d : Option Tmp} {op : Op} {ty : TypeId} {p : String} {af : Array Edge} {g : Nat} {b c G : Bool} {tt : Tmp} {t : Value} (hg : (ops[g]?).bind (·.dst) = some tt)
    (hc : ∀ vals w, (∀ j, edgeOn ⟨d, op, ty, p, af, some (g, b)⟩ j = true → S j (vals j) w) → envA ops vals e0 k tt = bif G then .bool c else undef)
    (h : ∀ vals w, Keep K w0 w → (∀ j, edgeOn ⟨d, op, ty, p, af, some (g, b)⟩ j = true → S j (vals j) w) → (G && (c == b)) = true → OpVat P ⟨d, op, ty, p, af, some (g, b)⟩ (envA ops vals e0 k) w t)
    (r : RegT P N ops Q K e0 w0 l (k + 1) (setS S k (fun v _ => v = bif (G && (c == b)) then t else undef))) : RegT P N ops Q K e0 w0 (⟨d, op, ty, p, af, some (g, b)⟩ :: l) k S := by
  refine ⟨_, fun _ _ _ h _ => h, fun vals w hR hd => ?_, r⟩
  have hc' := hc vals w hd
  have hy : yieldE ops (envA ops vals e0 k) g = bif G then some c else none := by
    unfold yieldE; rw [hg]; simp only [hc']; cases G <;> rfl
  simp only [OpG, wantedE, Region.wanted, hy]
  cases G with
  | false =>
    have : ((none : Option Bool) == some b) = false := rfl
    simp only [cond_false, this, Bool.false_and]
    exact ⟨Keep.refl _, trivial⟩
  | true =>
    simp only [cond_true, Bool.true_and]
    by_cases hb : c = b
    · have hcb : (c == b) = true := by simp [hb]
      have : (some c == some b) = true := by simp [hb]
      rw [this]
      exact OpTo.of_v (h vals w hR hd (by simp [hcb])) ⟨Keep.refl _, by rw [hcb]; rfl⟩
    · have hcb : (c == b) = false := by simpa using hb
      have : (some c == some b) = false := by simpa using hb
      rw [this]
      exact ⟨Keep.refl _, by rw [hcb]; rfl⟩

/-- a guarded step with an effect; G: whether it is wanted -/
theorem rt_gto {d : Option Tmp} {op : Op} {ty : TypeId} {p : String} {af : Array Edge} {g : Nat} {b G : Bool} (Sk : Value → World → Prop)
    (hs : ∀ v w w', Sk v w → Keep K w w' → Sk v w')
    (hc : ∀ vals w, (∀ j, edgeOn ⟨d, op, ty, p, af, some (g, b)⟩ j = true → S j (vals j) w) → wantedE ops (envA ops vals e0 k) ⟨d, op, ty, p, af, some (g, b)⟩ = G)
    (h : ∀ vals w, Keep K w0 w → (∀ j, edgeOn ⟨d, op, ty, p, af, some (g, b)⟩ j = true → S j (vals j) w) → G = true → OpTo P ⟨d, op, ty, p, af, some (g, b)⟩ (envA ops vals e0 k) w (fun v w' => Keep K w w' ∧ Sk v w'))
    (r : RegT P N ops Q K e0 w0 l (k + 1) (setS S k (fun v w => (G = true → Sk v w) ∧ (G = false → v = undef)))) : RegT P N ops Q K e0 w0 (⟨d, op, ty, p, af, some (g, b)⟩ :: l) k S := by
  refine ⟨_, fun v w w' h hk => ⟨fun hG => hs v w w' (h.1 hG) hk, h.2⟩, fun vals w hR hd => ?_, r⟩
  have hc' := hc vals w hd
  unfold OpG
  rw [hc']
  cases G with
  | false => exact ⟨Keep.refl _, fun h => (by cases h), fun _ => rfl⟩
  | true => exact (h vals w hR hd rfl).mono fun v w' hv => ⟨hv.1, fun _ => hv.2, fun h => (by cases h)⟩
end

/-- whether an operation is wanted: its guard is not itself guarded -/
theorem wanted1 {ops : Array Oper} {e : Nat → Value} {d : Option Tmp} {op : Op} {ty : TypeId} {p : String} {af : Array Edge} {g : Nat} {b c : Bool} {tt : Tmp} (hg : (ops[g]?).bind (·.dst) = some tt) (hc : e tt = .bool c) :
    wantedE ops e ⟨d, op, ty, p, af, some (g, b)⟩ = (c == b) := by
  simp only [wantedE, Region.wanted, yieldE_of hg hc]; cases c <;> cases b <;> rfl
theorem wanted2 {ops : Array Oper} {e : Nat → Value} {d : Option Tmp} {op : Op} {ty : TypeId} {p : String} {af : Array Edge} {g : Nat} {b c G : Bool} {tt : Tmp} (hg : (ops[g]?).bind (·.dst) = some tt) (hc : e tt = bif G then .bool c else undef) :
    wantedE ops e ⟨d, op, ty, p, af, some (g, b)⟩ = (G && (c == b)) := by
  have hy : yieldE ops e g = bif G then some c else none := by
    unfold yieldE; rw [hg]; simp only [hc]; cases G <;> rfl
  simp only [wantedE, Region.wanted, hy]; cases G <;> cases c <;> cases b <;> rfl

/-- what a guarded step left, where it was wanted -/
theorem gd {v t : Value} {G : Bool} (hG : G = true) (h : v = bif G then t else undef) : v = t := by subst hG; exact h
theorem gdl {A B : Bool} (h : (A && B) = true) : A = true := by cases A <;> simp_all
theorem gda {v t : Value} {A B : Bool} (hA : A = true) (h : v = bif (A && B) then t else undef) : v = bif B then t else undef := by subst hA; exact h

section
variable {P : Program} {N : Nat} {ops : Array Oper} {Q : Exit → Act → World → Prop} {e : Nat → Value} {w : World} {rest : List Oper}
/-- in the order of the text: guarded, the value known -/
theorem l_g1 {d : Option Tmp} {op : Op} {ty : TypeId} {p : String} {af : Array Edge} {g : Nat} {b c : Bool} {tt : Tmp} {t : Value} (hg : (ops[g]?).bind (·.dst) = some tt) (hc : e tt = .bool c)
    (h : (c == b) = true → OpVat P ⟨d, op, ty, p, af, some (g, b)⟩ e w t) (r : wpL P N ops Q rest (updo e d (bif (c == b) then t else undef)) w) :
    wpL P N ops Q (⟨d, op, ty, p, af, some (g, b)⟩ :: rest) e w := by
  unfold wpL
  rw [wanted1 hg hc]
  cases hcb : (c == b) with
  | true => rw [hcb] at r; exact OpTo.of_v (h hcb) r
  | false => rw [hcb] at r; exact r
theorem l_g2 {d : Option Tmp} {op : Op} {ty : TypeId} {p : String} {af : Array Edge} {g : Nat} {b c G : Bool} {tt : Tmp} {t : Value} (hg : (ops[g]?).bind (·.dst) = some tt) (hc : e tt = bif G then .bool c else undef)
    (h : (G && (c == b)) = true → OpVat P ⟨d, op, ty, p, af, some (g, b)⟩ e w t) (r : wpL P N ops Q rest (updo e d (bif (G && (c == b)) then t else undef)) w) :
    wpL P N ops Q (⟨d, op, ty, p, af, some (g, b)⟩ :: rest) e w := by
  unfold wpL
  rw [wanted2 hg hc]
  cases hcb : (G && (c == b)) with
  | true => rw [hcb] at r; exact OpTo.of_v (h hcb) r
  | false => rw [hcb] at r; exact r
/-- in the order of the text: guarded, with an effect -/
theorem l_gto {d : Option Tmp} {op : Op} {ty : TypeId} {p : String} {af : Array Edge} {g : Nat} {b G : Bool} (K : Nat → Prop) (Sk : Value → World → Prop) (hc : wantedE ops e ⟨d, op, ty, p, af, some (g, b)⟩ = G)
    (h : G = true → OpTo P ⟨d, op, ty, p, af, some (g, b)⟩ e w (fun v w' => Keep K w w' ∧ Sk v w')) (r : ∀ v w', Keep K w w' → (G = true → Sk v w') → (G = false → v = undef) → wpL P N ops Q rest (updo e d v) w') :
    wpL P N ops Q (⟨d, op, ty, p, af, some (g, b)⟩ :: rest) e w := by
  unfold wpL
  rw [hc]
  cases G with
  | true => exact (h rfl).mono fun v w' hv => r v w' hv.1 (fun _ => hv.2) (fun h => by cases h)
  | false => exact r _ _ (Keep.refl _) (fun h => by cases h) (fun _ => rfl)
end
end Go.Vc
