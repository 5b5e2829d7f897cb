/- A part of the proof: steps and lemmas for the walks through the given program. -/
import Derived.Test.YtkaangdfpjkjpaaVc14
namespace Go.Vc
set_option linter.unusedVariables false
set_option linter.unusedSimpArgs false

/-- any order, with one fact about all that was done -/
theorem reg_anyJW {ro : Option Nat} {n : Nat} {ds : List Deferred} {P : Program} {N : Nat} {ops : Array Oper} {Q : Exit → Act → World → Prop} {e0 : Nat → Value} {w0 : World} {R : World → World → Prop} (S : Nat → Value → World → Prop) (J : (Nat → Bool) → (Nat → Value) → World → Prop)
    (hl : opsLt N ops = true) (hok : okR ops = true)
    (htr : ∀ a b c, R a b → R b c → R a c) (h0 : R w0 w0)
    (hst : ∀ i v w w', S i v w → R w w' → S i v w')
    (hJ0 : ∀ vals, J (fun i => !decide (i < ops.size)) vals w0)
    (hloc : ∀ i o, ops[i]? = some o → ∀ done vals w, R w0 w → (∀ j oj, done j = true → ops[j]? = some oj → ∀ k, edgeOn oj k = true → done k = true) → done i = false → J done vals w → (∀ j, edgeOn o j = true → done j = true) → (∀ j, edgeOn o j = true → S j (vals j) w) → OpG P ops (envL ops (fun _ => true) vals e0 i) o w (fun v w' => R w w' ∧ S i v w' ∧ J (fun j => if j = i then true else done j) (setv vals i v) w'))
    (hfin : ∀ vals w, R w0 w → J (fun _ => true) vals w → (∀ i, i < ops.size → S i (vals i) w) → Q .normal (FrD N (envL ops (fun _ => true) vals e0 ops.size) ds) w) :
    wpR ro n P ops Q (FrD N e0 ds) w0 := by
  have main : ∀ (fuel : Nat) (listed : Array Bool) (vals : Nat → Value) (w : World), cnt (fun i => !listed.getD i true) ops.size ≤ fuel → R w0 w → J (fun i => listed.getD i true) vals w →
      (∀ j o, listed.getD j true = true → ops[j]? = some o → ∀ e ∈ o.after, Region.binds .any e = true → listed.getD e.on false = true) →
      (∀ j, j < ops.size → listed.getD j true = true → S j (vals j) w) → listed.size = ops.size →
      wpAnyIn (Fw ro) n P .any ops Q fuel listed (FrD N (envL ops (fun i => listed.getD i true) vals e0 ops.size) ds) w := by
    intro fuel
    induction fuel with
    | zero =>
      intro listed vals w hc hR hJ hdc hS hsz
      have hall := cnt_zero ops.size (Nat.le_zero.1 hc)
      have hall' : ∀ i, i < ops.size → listed.getD i true = true := fun i hi => by have := hall i hi; simpa using this
      have hJt : (fun i => listed.getD i true) = fun _ => true := funext fun i => by
        by_cases hi : i < ops.size
        · exact hall' i hi
        · simp [Array.getD, hsz, hi]
      rw [hJt] at hJ
      refine ⟨?_, ?_⟩
      · cases hr : Region.ready .any ops listed with
        | nil => rfl
        | cons i l =>
          have hi : i ∈ Region.ready .any ops listed := by rw [hr]; simp
          obtain ⟨hu, o, ho, _⟩ := mem_ready.1 hi
          rw [hall' i (Array.getElem?_eq_some_iff.1 ho).1] at hu; cases hu
      · rw [envL_ext (ls' := fun _ => true) (vals' := vals) ops.size (fun k hk => hall' k hk) (fun _ _ _ => rfl)]
        exact hfin vals w hR hJ fun i hi => hS i hi (hall' i hi)
    | succ fuel ih =>
      intro listed vals w hc hR hJ hdc hS hsz
      refine ⟨fun hnil => ?_, fun i hi => ?_⟩
      · have hall' : ∀ i, i < ops.size → listed.getD i true = true := by
          intro i hi
          cases hu : listed.getD i true with
          | true => rfl
          | false =>
            obtain ⟨k, hk, hfk, hmin⟩ := least (f := fun i => !listed.getD i true) ops.size ⟨i, hi, by simp only [hu]; rfl⟩
            have hok' : ops[k]? = some ops[k] := by simp [hk]
            have : k ∈ Region.ready .any ops listed := mem_ready.2 ⟨by simpa using hfk, ops[k], hok', fun e he hb => by
              have hlt := okR_edges hok hok' e he hb
              have h1 := hmin e.on hlt
              have h2 : listed.getD e.on true = true := by simpa using h1
              have h3 : e.on < listed.size := by omega
              simp only [Array.getD, h3, dif_pos] at h2 ⊢
              exact h2⟩
            rw [hnil] at this; cases this
        have hJt : (fun i => listed.getD i true) = fun _ => true := funext fun i => by
          by_cases hi : i < ops.size
          · exact hall' i hi
          · simp [Array.getD, hsz, hi]
        rw [hJt] at hJ
        rw [envL_ext (ls' := fun _ => true) (vals' := vals) ops.size (fun k hk => hall' k hk) (fun _ _ _ => rfl)]
        exact hfin vals w hR hJ fun i hi => hS i hi (hall' i hi)
      · obtain ⟨hu, o, ho, hdeps⟩ := mem_ready.1 hi
        have hilt : i < ops.size := (Array.getElem?_eq_some_iff.1 ho).1
        have holt := opsLt_at hl ho
        have hedge : ∀ k, edgeOn o k = true → listed.getD k false = true := by
          intro k hk
          obtain ⟨e, he, hb⟩ := edgeOn_iff hk
          simp only [Bool.and_eq_true] at hb
          have := hdeps e he hb.1
          rwa [Nat.eq_of_beq_eq_true hb.2] at this
        have toT : ∀ k, listed.getD k false = true → listed.getD k true = true := by
          intro k hk
          by_cases hlt : k < listed.size
          · simp only [Array.getD, hlt, dif_pos] at hk ⊢; exact hk
          · simp only [Array.getD, hlt, dif_neg, not_false_eq_true]
        have hsee : ∀ t, t ∈ o.looksAt ops → envL ops (fun i => listed.getD i true) vals e0 ops.size t = envL ops (fun _ => true) vals e0 i t := by
          intro t ht
          rw [envL_stop (i := i) ops.size (by omega) (fun k h1 h2 h3 hd => ?_), envL_full i (fun k hk hku hd => ?_)]
          ·
            obtain ⟨ok, hok'⟩ : ∃ ok, ops[k]? = some ok := ⟨ops[k], by simp [show k < ops.size by omega]⟩
            have hne : edgeOn o k = false := by
              cases hh : edgeOn o k with
              | false => rfl
              | true => have := toT k (hedge k hh); rw [hku] at this; cases this
            have hap := okR_apart hok ho hok' hk hne
            obtain ⟨a1, a2, a3⟩ := Oper.apart_spec hap
            simp only [dstAt, hok', Option.bind_some] at hd
            exact a1 t hd ht
          ·
            have hki : k ≠ i := fun he => by subst he; rw [hu] at h3; cases h3
            obtain ⟨ok, hok'⟩ : ∃ ok, ops[k]? = some ok := ⟨ops[k], by simp [h2]⟩
            have hne : edgeOn ok i = false := by
              cases hh : edgeOn ok i with
              | false => rfl
              | true =>
                obtain ⟨e, he, hb⟩ := edgeOn_iff hh
                simp only [Bool.and_eq_true] at hb
                have := hdc k ok h3 hok' e he hb.1
                rw [Nat.eq_of_beq_eq_true hb.2] at this
                have := toT i this
                rw [hu] at this; cases this
            have hap := okR_apart hok hok' ho (by omega) hne
            obtain ⟨a1, a2, a3⟩ := Oper.apart_spec hap
            simp only [dstAt, hok', Option.bind_some] at hd
            exact a3 t hd ht
        have hw : wantedE ops (envL ops (fun i => listed.getD i true) vals e0 ops.size) o = wantedE ops (envL ops (fun _ => true) vals e0 i) o := wantedE_congr hsee
        have hns : notSel o.op = true := by simp only [opLt, Bool.and_eq_true] at holt; exact holt.2
        have hex := exec_ev_congr (ops := ops) hns hsee
        have hcl : ∀ j oj, listed.getD j true = true → ops[j]? = some oj → ∀ k, edgeOn oj k = true → listed.getD k true = true := by
          intro j oj hj hoj k hk
          obtain ⟨e, he, hb⟩ := edgeOn_iff hk
          simp only [Bool.and_eq_true] at hb
          have := hdc j oj hj hoj e he hb.1
          rw [Nat.eq_of_beq_eq_true hb.2] at this
          exact toT k this
        have hL := hloc i o ho (fun i => listed.getD i true) vals w hR hcl hu hJ (fun j hj => toT j (hedge j hj)) (fun j hj => hS j (by
          obtain ⟨e, he, hb⟩ := edgeOn_iff hj
          simp only [Bool.and_eq_true] at hb
          have := okR_edges hok ho e he hb.1
          rw [Nat.eq_of_beq_eq_true hb.2] at this
          omega) (toT j (hedge j hj)))
        have next : ∀ v w', R w w' → S i v w' → J (fun j => if j = i then true else listed.getD j true) (setv vals i v) w' → wpAnyIn (Fw ro) n P .any ops Q fuel (listed.setIfInBounds i true) (FrD N (updo (envL ops (fun i => listed.getD i true) vals e0 ops.size) o.dst v) ds) w' := by
          intro v w' hRw hSv hJv
          have hget : ∀ j d, (listed.setIfInBounds i true).getD j d = if j = i then true else listed.getD j d := by
            intro j d
            by_cases hji : j = i
            · subst hji
              have : j < listed.size := by omega
              simp [Array.getD, this]
            · by_cases hlt : j < listed.size
              · simp [Array.getD, hlt, hji, Ne.symm hji]
              · simp [Array.getD, hlt, hji]
          have henv : updo (envL ops (fun i => listed.getD i true) vals e0 ops.size) o.dst v = envL ops (fun j => (listed.setIfInBounds i true).getD j true) (setv vals i v) e0 ops.size := by
            have hdi : dstAt ops i = o.dst := by simp [dstAt, ho]
            funext t
            by_cases hd : o.dst = some t
            · rw [updo_same hd]
              rw [envL_stop (i := i + 1) ops.size (by omega) (fun k h1 h2 h3 hk => ?_)]
              · simp only [envL]
                have : (listed.setIfInBounds i true).getD i true = true := by rw [hget]; simp
                rw [this, cond_true, updo_same (by rw [hdi]; exact hd)]
                simp [setv]
              · obtain ⟨ok, hok'⟩ : ∃ ok, ops[k]? = some ok := ⟨ops[k], by simp [h2]⟩
                have hki : k ≠ i := by omega
                rw [hget, if_neg hki] at h3
                have hne : edgeOn ok i = false := by
                  cases hh : edgeOn ok i with
                  | false => rfl
                  | true =>
                    obtain ⟨e, he, hb⟩ := edgeOn_iff hh
                    simp only [Bool.and_eq_true] at hb
                    have := hdc k ok h3 hok' e he hb.1
                    rw [Nat.eq_of_beq_eq_true hb.2] at this
                    have := toT i this
                    rw [hu] at this; cases this
                have hap := okR_apart hok hok' ho (by omega) hne
                obtain ⟨a1, a2, a3⟩ := Oper.apart_spec hap
                simp only [dstAt, hok', Option.bind_some] at hk
                exact a2 t hd hk
            · rw [updo_ne hd]
              have : ∀ n, envL ops (fun i => listed.getD i true) vals e0 n t = envL ops (fun j => (listed.setIfInBounds i true).getD j true) (setv vals i v) e0 n t := by
                intro n
                induction n with
                | zero => rfl
                | succ n ihn =>
                  simp only [envL]
                  by_cases hni : n = i
                  · subst hni
                    have e1 : (listed.setIfInBounds n true).getD n true = true := by rw [hget]; simp
                    rw [hu, e1, cond_false, cond_true, updo_ne (by rw [hdi]; exact hd)]
                    exact ihn
                  · rw [hget, if_neg hni]
                    cases listed.getD n true with
                    | false => simpa using ihn
                    | true =>
                      simp only [cond_true]
                      by_cases hdn : dstAt ops n = some t
                      · rw [updo_same hdn, updo_same hdn]; simp [setv, hni]
                      · rw [updo_ne hdn, updo_ne hdn]; exact ihn
              exact this _
          rw [henv]
          refine ih _ _ _ ?_ (htr _ _ _ hR hRw) (by rw [show (fun j => (listed.setIfInBounds i true).getD j true) = fun j => if j = i then true else listed.getD j true from funext fun j => hget j true]; exact hJv) ?_ ?_ (by simpa using hsz)
          · have := cnt_lt (f := fun i => !listed.getD i true) (g := fun j => !(listed.setIfInBounds i true).getD j true) (i := i) (fun j hj => by
              rw [hget] at hj
              by_cases hji : j = i
              · simp [hji] at hj
              · simpa [hji] using hj) (by simp only [hu]; rfl) (by rw [hget]; simp) ops.size hilt
            omega
          · intro j oj hj hoj e he hb
            rw [hget] at hj ⊢
            by_cases hji : j = i
            · subst hji
              rw [ho] at hoj; cases hoj
              split
              · rfl
              · exact hdeps e he hb
            · rw [if_neg hji] at hj
              split
              · rfl
              · exact hdc j oj hj hoj e he hb
          · intro j hjs hj
            by_cases hji : j = i
            · subst hji; simpa [setv] using hSv
            · rw [hget, if_neg hji] at hj
              simp only [setv, if_neg hji]
              exact hst j _ _ _ (hS j hjs hj) hRw
        unfold wpOpIn
        rw [ho]
        simp only []
        rw [yielded_frD hl]
        unfold OpG at hL
        rw [← hw] at hL
        split
        · rename_i hwt
          have hwt' : wantedE ops (envL ops (fun i => listed.getD i true) vals e0 ops.size) o = true := hwt
          rw [if_pos hwt'] at hL
          have hL' : OpTo P o (envL ops (fun i => listed.getD i true) vals e0 ops.size) w (fun v w' => R w w' ∧ S i v w' ∧ J (fun j => if j = i then true else listed.getD j true) (setv vals i v) w') := by
            unfold OpTo at hL ⊢
            rw [hex]; exact hL
          exact (OpTo.wpIn holt hL' fun v w' hv => next v w' hv.1 hv.2.1 hv.2.2)
        · rename_i hwt
          have hwt' : ¬ wantedE ops (envL ops (fun i => listed.getD i true) vals e0 ops.size) o = true := hwt
          rw [if_neg hwt'] at hL
          have hd : dstLt N o.dst = true := by simp only [opLt, Bool.and_eq_true] at holt; exact holt.1.2
          rw [frD_puto hd]
          exact ⟨fun f _ => Fw_fn ro f, next _ _ hL.1 hL.2.1 hL.2.2⟩
  have := main ops.size (Array.replicate ops.size false) (fun _ => undef) w0 (by
    have h : ∀ n, cnt (fun i => !(Array.replicate ops.size false).getD i true) n ≤ n := by
      intro n
      induction n with
      | zero => simp [cnt]
      | succ n ih => simp only [cnt]; split <;> omega
    exact h _) h0 (by
      rw [show (fun i => (Array.replicate ops.size false).getD i true) = fun i => !decide (i < ops.size) from funext fun i => by
        by_cases hi : i < ops.size
        · simp [Array.getD, hi]
        · simp [Array.getD, hi]]
      exact hJ0 _) (by
      intro j o hj ho
      have : j < ops.size := (Array.getElem?_eq_some_iff.1 ho).1
      simp [Array.getD, this] at hj) (by
      intro j hj hl
      simp [Array.getD, hj] at hl) (by simp)
  have e1 : envL ops (fun i => (Array.replicate ops.size false).getD i true) (fun _ => undef) e0 ops.size = e0 := by
    have : ∀ n, n ≤ ops.size → envL ops (fun i => (Array.replicate ops.size false).getD i true) (fun _ => undef) e0 n = e0 := by
      intro n
      induction n with
      | zero => intro _; rfl
      | succ n ih =>
        intro hn
        have hlt : n < ops.size := by omega
        have hf : (Array.replicate ops.size false).getD n true = false := by simp [Array.getD, hlt]
        simp only [envL]
        rw [hf, cond_false]
        exact ih (by omega)
    exact this _ (Nat.le_refl _)
  rw [e1] at this
  exact this

theorem reg_anyJ {ro : Option Nat} {n : Nat} {ds : List Deferred} {P : Program} {N id : Nat} {ops : Array Oper} {Q : Exit → Act → World → Prop} {e0 : Nat → Value} {w0 : World} {R : World → World → Prop} (S : Nat → Value → World → Prop) (J : (Nat → Bool) → (Nat → Value) → World → Prop)
    (hm : P.follows .mixedOrders = true) (hl : opsLt N ops = true) (hok : okR ops = true)
    (htr : ∀ a b c, R a b → R b c → R a c) (h0 : R w0 { w0 with drawn := w0.drawn + 1 }) (hr : R { w0 with drawn := w0.drawn + 1 } { w0 with drawn := w0.drawn + 1 })
    (hst : ∀ i v w w', S i v w → R w w' → S i v w')
    (hJ0 : ∀ vals, J (fun i => !decide (i < ops.size)) vals { w0 with drawn := w0.drawn + 1 })
    (hloc : ∀ i o, ops[i]? = some o → ∀ done vals w, R w0 w → (∀ j oj, done j = true → ops[j]? = some oj → ∀ k, edgeOn oj k = true → done k = true) → done i = false → J done vals w → (∀ j, edgeOn o j = true → done j = true) → (∀ j, edgeOn o j = true → S j (vals j) w) → OpG P ops (envL ops (fun _ => true) vals e0 i) o w (fun v w' => R w w' ∧ S i v w' ∧ J (fun j => if j = i then true else done j) (setv vals i v) w'))
    (hfin : ∀ vals w, R w0 w → J (fun _ => true) vals w → (∀ i, i < ops.size → S i (vals i) w) → Q .normal (FrD N (envL ops (fun _ => true) vals e0 ops.size) ds) w) :
    (Code.region id ops true).wpIn (Fw ro) n P Q (FrD N e0 ds) w0 :=
  wpIn_region_any hm (reg_anyJW (w0 := { w0 with drawn := w0.drawn + 1 }) S J hl hok htr hr hst hJ0 (fun i o ho done vals w hR => hloc i o ho done vals w (htr _ _ _ h0 hR)) (fun vals w hR => hfin vals w (htr _ _ _ h0 hR)))
/-- the region's end: what was drawn, told one behind the other -/
def FinJ (N : Nat) (Q : Exit → Act → World → Prop) (S : Nat → Value → World → Prop) (vals : Nat → Value) : List Oper → Nat → (Nat → Value) → World → Prop
  | [], _, e, w => Q .normal (Fr N e) w
  | o :: l, k, e, w => ∀ v, v = vals k → S k v w → FinJ N Q S vals l (k + 1) (updo e o.dst v) w
def Jt : Type := (Nat → Bool) → (Nat → Value) → World → Prop
def don (done : Nat → Bool) (i : Nat) : Nat → Bool := fun j => if j = i then true else done j
def Closed (ops : Array Oper) (done : Nat → Bool) : Prop := ∀ j oj, done j = true → ops[j]? = some oj → ∀ k, edgeOn oj k = true → done k = true
def RegJ (P : Program) (N : Nat) (ops : Array Oper) (Q : Exit → Act → World → Prop) (K : Nat → Prop) (J : (Nat → Bool) → (Nat → Value) → World → Prop) (e0 : Nat → Value) (w0 : World) : List Oper → Nat → (Nat → Value → World → Prop) → Prop
  | [], k, S => ∀ vals w, Keep K w0 w → J (fun _ => true) vals w → FinJ N Q S vals ops.toList 0 e0 w
  | o :: l, k, S => ∃ Sk : Value → World → Prop, (∀ v w w', Sk v w → Keep K w w' → Sk v w') ∧
      (∀ done vals w, Keep K w0 w → Closed ops done → done k = false → J done vals w → (∀ j, edgeOn o j = true → done j = true) → (∀ j, edgeOn o j = true → S j (vals j) w) → OpG P ops (envA ops vals e0 k) o w (fun v w' => Keep K w w' ∧ Sk v w' ∧ J (don done k) (setv vals k v) w')) ∧
      RegJ P N ops Q K J e0 w0 l (k + 1) (setS S k Sk)

theorem finJ_vals {N : Nat} {Q : Exit → Act → World → Prop} {S : Nat → Value → World → Prop} {ops : Array Oper} {vals : Nat → Value} {e0 : Nat → Value} {w : World} : ∀ (l : List Oper) (k : Nat), (∀ j, l[j]? = ops[k + j]?) →
    FinJ N Q S vals l k (envA ops vals e0 k) w → (∀ i, i < k + l.length → S i (vals i) w) → Q .normal (Fr N (envA ops vals e0 (k + l.length))) w
  | [], k, _, h, _ => h
  | o :: l, k, hl, h, hS => by
    have h0 : ops[k]? = some o := by simpa using (hl 0).symm
    have hk := h (vals k) rfl (hS k (by simp))
    have he : updo (envA ops vals e0 k) o.dst (vals k) = envA ops vals e0 (k + 1) := by simp [envA, envL, allT, dstAt, h0]
    rw [he] at hk
    have := finJ_vals l (k + 1) (fun j => by have := hl (j + 1); simpa [Nat.add_assoc, Nat.add_comm 1 j] using this) hk (fun i hi => hS i (by simp; omega))
    have e2 : k + 1 + l.length = k + (o :: l).length := by simp; omega
    rw [e2] at this
    exact this

theorem regJ_sound {P : Program} {N : Nat} {ops : Array Oper} {Q : Exit → Act → World → Prop} {K : Nat → Prop} {J : (Nat → Bool) → (Nat → Value) → World → Prop} {e0 : Nat → Value} {w0 : World} (hok : okR ops = true) : ∀ (l : List Oper) (k : Nat) (S : Nat → Value → World → Prop), (∀ j, l[j]? = ops[k + j]?) → RegJ P N ops Q K J e0 w0 l k S →
    (∀ i v w w', S i v w → Keep K w w' → S i v w') →
    (∀ i o, i < k → ops[i]? = some o → ∀ done vals w, Keep K w0 w → Closed ops done → done i = false → J done vals w → (∀ j, edgeOn o j = true → done j = true) → (∀ j, edgeOn o j = true → S j (vals j) w) → OpG P ops (envA ops vals e0 i) o w (fun v w' => Keep K w w' ∧ S i v w' ∧ J (don done i) (setv vals i v) w')) →
    ∃ S' : Nat → Value → World → Prop, (∀ i v w w', S' i v w → Keep K w w' → S' i v w') ∧
      (∀ i o, ops[i]? = some o → ∀ done vals w, Keep K w0 w → Closed ops done → done i = false → J done vals w → (∀ j, edgeOn o j = true → done j = true) → (∀ j, edgeOn o j = true → S' j (vals j) w) → OpG P ops (envA ops vals e0 i) o w (fun v w' => Keep K w w' ∧ S' i v w' ∧ J (don done i) (setv vals i v) w')) ∧
      (∀ vals w, Keep K w0 w → J (fun _ => true) vals w → FinJ N Q S' vals ops.toList 0 e0 w)
  | [], k, S, hl, h, hst, hlo => by
    refine ⟨S, hst, fun i o hi => ?_, h⟩
    have hlt : i < ops.size := (Array.getElem?_eq_some_iff.1 hi).1
    by_cases hik : i < k
    · exact hlo i o hik hi
    · have := hl (i - k)
      rw [show k + (i - k) = i by omega, hi] at this
      simp at this
  | o :: l, k, S, hl, ⟨Sk, hsk, hop, hrest⟩, hst, hlo => by
    have h0 : ops[k]? = some o := by simpa using (hl 0).symm
    have hedge : ∀ i oi, ops[i]? = some oi → ∀ j, edgeOn oi j = true → j < i := by
      intro i oi hi j hj
      obtain ⟨e, he, hb⟩ := edgeOn_iff hj
      simp only [Bool.and_eq_true] at hb
      have := okR_edges hok hi e he hb.1
      rwa [Nat.eq_of_beq_eq_true hb.2] at this
    refine regJ_sound hok l (k + 1) (setS S k Sk) (fun j => by have := hl (j + 1); simpa [Nat.add_assoc, Nat.add_comm 1 j] using this) hrest ?_ ?_
    · intro i v w w' hs hkw
      by_cases hik : i = k
      · subst hik; rw [setS_same] at hs ⊢; exact hsk v w w' hs hkw
      · rw [setS_ne hik] at hs ⊢; exact hst i v w w' hs hkw
    · intro i oi hi hoi done vals w hR hcl hdi hJ hdn hd
      by_cases hik : i = k
      · subst hik
        rw [h0] at hoi; cases hoi
        rw [setS_same]
        exact hop done vals w hR hcl hdi hJ hdn fun j hj => by
          have hlt := hedge i o h0 j hj
          have := hd j hj
          rwa [setS_ne (by omega)] at this
      · rw [setS_ne hik]
        exact hlo i oi (by omega) hoi done vals w hR hcl hdi hJ hdn fun j hj => by
          have hlt := hedge i oi hoi j hj
          have := hd j hj
          rwa [setS_ne (by omega)] at this

theorem wp_regJ {ro : Option Nat} {n : Nat} {ds : List Deferred} {P : Program} {N : Nat} {l : List Oper} {id : Nat} {Q : Exit → Act → World → Prop} {e : Nat → Value} {w : World} (K : Nat → Prop) (J : (Nat → Bool) → (Nat → Value) → World → Prop) (hm : P.follows .mixedOrders = true) (hl : opsLt N l.toArray = true) (hok : okR l.toArray = true)
    (hJ0 : ∀ vals done, (∀ i, i < l.length → done i = false) → J done vals { w with drawn := w.drawn + 1 })
    (h : RegJ P N l.toArray (Qd ds Q) K J e w l 0 noS) : (Code.region id l.toArray true).wpIn (Fw ro) n P Q (FrD N e ds) w := by
  obtain ⟨S, h1, h2, h3⟩ := regJ_sound hok l 0 noS (by simp) h (fun _ _ _ _ _ _ => trivial) (fun i o hi => by omega)
  refine reg_anyJ (R := Keep K) S J hm hl hok (fun _ _ _ => Keep.trans) (Keep.drawn _ _) (Keep.refl _) h1 (fun vals => hJ0 vals _ (fun i hi => by simp [hi])) h2 fun vals w' hR hJ hS => ?_
  have h4 : FinJ N (Qd ds Q) S vals l 0 (envA l.toArray vals e 0) w' := h3 vals w' hR hJ
  have := finJ_vals (ops := l.toArray) (vals := vals) l 0 (by simp) h4 (fun i hi => hS i (by simpa using hi))
  rw [Nat.zero_add] at this
  exact this
theorem wp_regJW {ro : Option Nat} {n : Nat} {ds : List Deferred} {P : Program} {N : Nat} {l : List Oper} {Q : Exit → Act → World → Prop} {e : Nat → Value} {w : World} (K : Nat → Prop) (J : (Nat → Bool) → (Nat → Value) → World → Prop) (hl : opsLt N l.toArray = true) (hok : okR l.toArray = true)
    (hJ0 : ∀ vals done, (∀ i, i < l.length → done i = false) → J done vals w)
    (h : RegJ P N l.toArray (Qd ds Q) K J e w l 0 noS) : wpR ro n P l.toArray Q (FrD N e ds) w := by
  obtain ⟨S, h1, h2, h3⟩ := regJ_sound hok l 0 noS (by simp) h (fun _ _ _ _ _ _ => trivial) (fun i o hi => by omega)
  refine reg_anyJW (R := Keep K) S J hl hok (fun _ _ _ => Keep.trans) (Keep.refl _) h1 (fun vals => hJ0 vals _ (fun i hi => by simp [hi])) h2 fun vals w' hR hJ hS => ?_
  have h4 : FinJ N (Qd ds Q) S vals l 0 (envA l.toArray vals e 0) w' := h3 vals w' hR hJ
  have := finJ_vals (ops := l.toArray) (vals := vals) l 0 (by simp) h4 (fun i hi => hS i (by simpa using hi))
  rw [Nat.zero_add] at this
  exact this
end Go.Vc
