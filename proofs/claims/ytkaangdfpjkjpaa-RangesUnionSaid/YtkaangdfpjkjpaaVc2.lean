/- A part of the proof: steps and lemmas for the walks through the given program. -/
import Derived.Test.YtkaangdfpjkjpaaVc1
namespace Go.Vc
set_option linter.unusedVariables false

def cnt (f : Nat → Bool) : Nat → Nat
  | 0 => 0
  | n + 1 => cnt f n + (if f n then 1 else 0)
theorem cnt_le {f g : Nat → Bool} (h : ∀ i, g i = true → f i = true) : ∀ n, cnt g n ≤ cnt f n
  | 0 => Nat.le_refl _
  | n + 1 => by
    have := cnt_le h n
    simp only [cnt]
    cases hg : g n with
    | false => simp; omega
    | true => simp [h n hg]; omega
theorem cnt_lt {f g : Nat → Bool} (h : ∀ i, g i = true → f i = true) {i : Nat} (hf : f i = true) (hg : g i = false) : ∀ n, i < n → cnt g n + 1 ≤ cnt f n
  | 0, h => by omega
  | n + 1, hn => by
    simp only [cnt]
    by_cases hi : i = n
    · subst hi; have := cnt_le h i; simp [hf, hg]; omega
    · have := cnt_lt h hf hg n (by omega)
      cases hgn : g n with
      | false => simp; omega
      | true => simp [h n hgn]; omega
theorem cnt_zero {f : Nat → Bool} : ∀ n, cnt f n = 0 → ∀ i, i < n → f i = false
  | 0, _, i, hi => by omega
  | n + 1, h, i, hi => by
    simp only [cnt] at h
    have h1 : cnt f n = 0 := by omega
    by_cases hin : i = n
    · subst hin; cases hf : f i with | false => rfl | true => simp [hf] at h
    · exact cnt_zero n h1 i (by omega)
theorem least {f : Nat → Bool} : ∀ n, (∃ i, i < n ∧ f i = true) → ∃ i, i < n ∧ f i = true ∧ ∀ j, j < i → f j = false
  | 0, ⟨i, hi, _⟩ => by omega
  | n + 1, ⟨i, hi, hf⟩ => by
    by_cases h : ∃ i, i < n ∧ f i = true
    · obtain ⟨k, hk, hfk, hl⟩ := least n h; exact ⟨k, by omega, hfk, hl⟩
    · have hin : i = n := by
        rcases Nat.lt_or_ge i n with h' | h'
        · exact absurd ⟨i, h', hf⟩ h
        · omega
      subst hin
      refine ⟨i, by omega, hf, fun j hj => ?_⟩
      cases hfj : f j with
      | false => rfl
      | true => exact absurd ⟨j, hj, hfj⟩ h

def edgeOn (o : Oper) (k : Nat) : Bool := o.after.toList.any fun e => Region.binds .any e && Nat.beq e.on k
theorem edgeOn_iff {o : Oper} {k : Nat} (h : edgeOn o k = true) : ∃ e, e ∈ o.after ∧ (Region.binds .any e && Nat.beq e.on k) = true := by
  simp only [edgeOn, List.any_eq_true] at h
  obtain ⟨e, he, hb⟩ := h
  exact ⟨e, by simpa using he, hb⟩
def okR (ops : Array Oper) : Bool := (List.range ops.size).all fun i => match ops[i]? with
  | none => true
  | some o => (o.after.all fun e => !Region.binds .any e || Nat.blt e.on i) && (List.range i).all fun k => edgeOn o k || (match ops[k]? with | some ok => ok.apart ops o | none => true)

theorem okR_edges {ops : Array Oper} (h : okR ops = true) {i : Nat} {o : Oper} (hi : ops[i]? = some o) : ∀ e ∈ o.after, Region.binds .any e = true → e.on < i := by
  have hlt : i < ops.size := (Array.getElem?_eq_some_iff.1 hi).1
  simp only [okR, List.all_eq_true, List.mem_range] at h
  have h1 := h i hlt
  simp only [hi, Bool.and_eq_true, Array.all_eq_true'] at h1
  intro e he hb
  have h2 := h1.1 e he
  simp [hb, Nat.blt] at h2
  exact h2
theorem okR_apart {ops : Array Oper} (h : okR ops = true) {i k : Nat} {o ok : Oper} (hi : ops[i]? = some o) (hk : ops[k]? = some ok) (hki : k < i) (hne : edgeOn o k = false) : ok.apart ops o = true := by
  have hlt : i < ops.size := (Array.getElem?_eq_some_iff.1 hi).1
  simp only [okR, List.all_eq_true, List.mem_range] at h
  have h1 := h i hlt
  simp only [hi, Bool.and_eq_true, List.all_eq_true, List.mem_range] at h1
  have h2 := h1.2 k hki
  simpa [hne, hk] using h2

def dstAt (ops : Array Oper) (n : Nat) : Option Tmp := (ops[n]?).bind (·.dst)
def envL (ops : Array Oper) (ls : Nat → Bool) (vals : Nat → Value) (e0 : Nat → Value) : Nat → Nat → Value
  | 0 => e0
  | n + 1 => bif ls n then updo (envL ops ls vals e0 n) (dstAt ops n) (vals n) else envL ops ls vals e0 n

theorem updo_ne {e : Nat → Value} {d : Option Tmp} {v : Value} {t : Nat} (h : d ≠ some t) : updo e d v t = e t := by
  cases d with
  | none => rfl
  | some d => exact upd_ne e v (fun hh => h (by rw [hh]))
theorem updo_same {e : Nat → Value} {d : Option Tmp} {v : Value} {t : Nat} (h : d = some t) : updo e d v t = v := by subst h; exact upd_same e t v

section
variable {ops : Array Oper} {ls : Nat → Bool} {vals e0 : Nat → Value}
theorem envL_full {t : Nat} : ∀ n, (∀ k, k < n → ls k = false → dstAt ops k ≠ some t) → envL ops ls vals e0 n t = envL ops (fun _ => true) vals e0 n t
  | 0, _ => rfl
  | n + 1, h => by
    have ih := envL_full n (fun k hk => h k (by omega))
    simp only [envL, cond_true]
    cases hl : ls n with
    | true =>
      simp only [cond_true]
      by_cases hd : dstAt ops n = some t
      · rw [updo_same hd, updo_same hd]
      · rw [updo_ne hd, updo_ne hd]; exact ih
    | false => simp only [cond_false]; rw [updo_ne (h n (by omega) hl)]; exact ih
theorem envL_stop {t i : Nat} : ∀ n, i ≤ n → (∀ k, i ≤ k → k < n → ls k = true → dstAt ops k ≠ some t) → envL ops ls vals e0 n t = envL ops ls vals e0 i t
  | 0, hi, _ => by have : i = 0 := by omega
                   subst this; rfl
  | n + 1, hi, h => by
    by_cases he : i = n + 1
    · subst he; rfl
    · have ih := envL_stop n (by omega) (fun k h1 h2 => h k h1 (by omega))
      simp only [envL]
      cases hl : ls n with
      | true => simp only [cond_true]; rw [updo_ne (h n (by omega) (by omega) hl)]; exact ih
      | false => simp only [cond_false]; exact ih
theorem envL_ext {ls' : Nat → Bool} {vals' : Nat → Value} : ∀ n, (∀ k, k < n → ls k = ls' k) → (∀ k, k < n → ls k = true → vals k = vals' k) → envL ops ls vals e0 n = envL ops ls' vals' e0 n
  | 0, _, _ => rfl
  | n + 1, h, hv => by
    simp only [envL]
    rw [envL_ext n (fun k hk => h k (by omega)) (fun k hk => hv k (by omega)), ← h n (by omega)]
    cases hl : ls n with
    | true => rw [hv n (by omega) hl]
    | false => rfl
end

def setv (vals : Nat → Value) (i : Nat) (v : Value) : Nat → Value := fun j => if j = i then v else vals j

def OpG (P : Program) (ops : Array Oper) (e : Nat → Value) (o : Oper) (w : World) (K : Value → World → Prop) : Prop :=
  if wantedE ops e o then OpTo P o e w K else K undef w

theorem wantedE_congr {ops : Array Oper} {e e' : Nat → Value} {o : Oper} (h : ∀ t, t ∈ o.looksAt ops → e t = e' t) : wantedE ops e o = wantedE ops e' o := by
  unfold wantedE Region.wanted
  cases hg : o.guard with
  | none => rfl
  | some gw =>
    obtain ⟨g, b⟩ := gw
    have : yieldE ops e g = yieldE ops e' g := by
      unfold yieldE
      cases hd : (ops[g]?).bind (·.dst) with
      | none => rfl
      | some t => simp only [h t (by simp [Oper.looksAt, hg, hd])]
    simp only [this]
theorem exec_ev_congr {ops : Array Oper} {e e' : Nat → Value} {o : Oper} (hs : notSel o.op = true) (h : ∀ t, t ∈ o.looksAt ops → e t = e' t) : execOp (ev e) o = execOp (ev e') o := by
  refine execOp_congr o (fun cs b hh => by rw [hh] at hs; simp [notSel] at hs) (fun x hx => ?_)
  cases x with
  | tmp t => exact h t (List.mem_append_left _ (List.mem_filterMap.2 ⟨.tmp t, by simpa using hx, rfl⟩))
  | _ => rfl

/-- a region of any order, drawn already -/
abbrev wpR (ro : Option Nat) (n : Nat) (P : Program) (ops : Array Oper) (Q : Exit → Act → World → Prop) (a : Act) (w : World) : Prop := wpAnyIn (Fw ro) n P .any ops Q ops.size (Array.replicate ops.size false) a w
theorem reg_anyW {ro : Option Nat} {n : Nat} {ds : List Deferred} {P : Program} {N : Nat} {ops : Array Oper} {Q : Exit → Act → World → Prop} {e0 : Nat → Value} {w0 : World} {R : World → World → Prop} (S : Nat → Value → World → Prop)
    (hl : opsLt N ops = true) (hok : okR ops = true)
    (htr : ∀ a b c, R a b → R b c → R a c) (h0 : R w0 w0)
    (hst : ∀ i v w w', S i v w → R w w' → S i v w')
    (hloc : ∀ i o, ops[i]? = some o → ∀ vals w, R w0 w → (∀ j, edgeOn o j = true → S j (vals j) w) → OpG P ops (envL ops (fun _ => true) vals e0 i) o w (fun v w' => R w w' ∧ S i v w'))
    (hfin : ∀ vals w, R w0 w → (∀ i, i < ops.size → S i (vals i) w) → Q .normal (FrD N (envL ops (fun _ => true) vals e0 ops.size) ds) w) :
    wpR ro n P ops Q (FrD N e0 ds) w0 := by
  have main : ∀ (fuel : Nat) (listed : Array Bool) (vals : Nat → Value) (w : World), cnt (fun i => !listed.getD i true) ops.size ≤ fuel → R w0 w →
      (∀ j o, listed.getD j true = true → ops[j]? = some o → ∀ e ∈ o.after, Region.binds .any e = true → listed.getD e.on false = true) →
      (∀ j, j < ops.size → listed.getD j true = true → S j (vals j) w) → listed.size = ops.size →
      wpAnyIn (Fw ro) n P .any ops Q fuel listed (FrD N (envL ops (fun i => listed.getD i true) vals e0 ops.size) ds) w := by
    intro fuel
    induction fuel with
    | zero =>
      intro listed vals w hc hR hdc hS hsz
      have hall := cnt_zero ops.size (Nat.le_zero.1 hc)
      have hall' : ∀ i, i < ops.size → listed.getD i true = true := fun i hi => by have := hall i hi; simpa using this
      refine ⟨?_, ?_⟩
      · cases hr : Region.ready .any ops listed with
        | nil => rfl
        | cons i l =>
          have hi : i ∈ Region.ready .any ops listed := by rw [hr]; simp
          obtain ⟨hu, o, ho, _⟩ := mem_ready.1 hi
          rw [hall' i (Array.getElem?_eq_some_iff.1 ho).1] at hu; cases hu
      · rw [envL_ext (ls' := fun _ => true) (vals' := vals) ops.size (fun k hk => hall' k hk) (fun _ _ _ => rfl)]
        exact hfin vals w hR fun i hi => hS i hi (hall' i hi)
    | succ fuel ih =>
      intro listed vals w hc hR hdc hS hsz
      refine ⟨fun hnil => ?_, fun i hi => ?_⟩
      · have hall' : ∀ i, i < ops.size → listed.getD i true = true := by
          intro i hi
          cases hu : listed.getD i true with
          | true => rfl
          | false =>
            obtain ⟨k, hk, hfk, hmin⟩ := least (f := fun i => !listed.getD i true) ops.size ⟨i, hi, by simp only [hu]; rfl⟩
            have hok' : ops[k]? = some ops[k] := by simp [hk]
            have : k ∈ Region.ready .any ops listed := mem_ready.2 ⟨by simpa using hfk, ops[k], hok', fun e he hb => by
              have hlt := okR_edges hok hok' e he hb
              have h1 := hmin e.on hlt
              have h2 : listed.getD e.on true = true := by simpa using h1
              have h3 : e.on < listed.size := by omega
              simp only [Array.getD, h3, dif_pos] at h2 ⊢
              exact h2⟩
            rw [hnil] at this; cases this
        rw [envL_ext (ls' := fun _ => true) (vals' := vals) ops.size (fun k hk => hall' k hk) (fun _ _ _ => rfl)]
        exact hfin vals w hR fun i hi => hS i hi (hall' i hi)
      · obtain ⟨hu, o, ho, hdeps⟩ := mem_ready.1 hi
        have hilt : i < ops.size := (Array.getElem?_eq_some_iff.1 ho).1
        have holt := opsLt_at hl ho
        have hedge : ∀ k, edgeOn o k = true → listed.getD k false = true := by
          intro k hk
          obtain ⟨e, he, hb⟩ := edgeOn_iff hk
          simp only [Bool.and_eq_true] at hb
          have := hdeps e he hb.1
          rwa [Nat.eq_of_beq_eq_true hb.2] at this
        have toT : ∀ k, listed.getD k false = true → listed.getD k true = true := by
          intro k hk
          by_cases hlt : k < listed.size
          · simp only [Array.getD, hlt, dif_pos] at hk ⊢; exact hk
          · simp only [Array.getD, hlt, dif_neg, not_false_eq_true]
        have hsee : ∀ t, t ∈ o.looksAt ops → envL ops (fun i => listed.getD i true) vals e0 ops.size t = envL ops (fun _ => true) vals e0 i t := by
          intro t ht
          rw [envL_stop (i := i) ops.size (by omega) (fun k h1 h2 h3 hd => ?_), envL_full i (fun k hk hku hd => ?_)]
          ·
            obtain ⟨ok, hok'⟩ : ∃ ok, ops[k]? = some ok := ⟨ops[k], by simp [show k < ops.size by omega]⟩
            have hne : edgeOn o k = false := by
              cases hh : edgeOn o k with
              | false => rfl
              | true => have := toT k (hedge k hh); rw [hku] at this; cases this
            have hap := okR_apart hok ho hok' hk hne
            obtain ⟨a1, a2, a3⟩ := Oper.apart_spec hap
            simp only [dstAt, hok', Option.bind_some] at hd
            exact a1 t hd ht
          ·
            have hki : k ≠ i := fun he => by subst he; rw [hu] at h3; cases h3
            obtain ⟨ok, hok'⟩ : ∃ ok, ops[k]? = some ok := ⟨ops[k], by simp [h2]⟩
            have hne : edgeOn ok i = false := by
              cases hh : edgeOn ok i with
              | false => rfl
              | true =>
                obtain ⟨e, he, hb⟩ := edgeOn_iff hh
                simp only [Bool.and_eq_true] at hb
                have := hdc k ok h3 hok' e he hb.1
                rw [Nat.eq_of_beq_eq_true hb.2] at this
                have := toT i this
                rw [hu] at this; cases this
            have hap := okR_apart hok hok' ho (by omega) hne
            obtain ⟨a1, a2, a3⟩ := Oper.apart_spec hap
            simp only [dstAt, hok', Option.bind_some] at hd
            exact a3 t hd ht
        have hw : wantedE ops (envL ops (fun i => listed.getD i true) vals e0 ops.size) o = wantedE ops (envL ops (fun _ => true) vals e0 i) o := wantedE_congr hsee
        have hns : notSel o.op = true := by simp only [opLt, Bool.and_eq_true] at holt; exact holt.2
        have hex := exec_ev_congr (ops := ops) hns hsee
        have hL := hloc i o ho vals w hR (fun j hj => hS j (by
          obtain ⟨e, he, hb⟩ := edgeOn_iff hj
          simp only [Bool.and_eq_true] at hb
          have := okR_edges hok ho e he hb.1
          rw [Nat.eq_of_beq_eq_true hb.2] at this
          omega) (toT j (hedge j hj)))
        have next : ∀ v w', R w w' → S i v w' → wpAnyIn (Fw ro) n P .any ops Q fuel (listed.setIfInBounds i true) (FrD N (updo (envL ops (fun i => listed.getD i true) vals e0 ops.size) o.dst v) ds) w' := by
          intro v w' hRw hSv
          have hget : ∀ j d, (listed.setIfInBounds i true).getD j d = if j = i then true else listed.getD j d := by
            intro j d
            by_cases hji : j = i
            · subst hji
              have : j < listed.size := by omega
              simp [Array.getD, this]
            · by_cases hlt : j < listed.size
              · simp [Array.getD, hlt, hji, Ne.symm hji]
              · simp [Array.getD, hlt, hji]
          have henv : updo (envL ops (fun i => listed.getD i true) vals e0 ops.size) o.dst v = envL ops (fun j => (listed.setIfInBounds i true).getD j true) (setv vals i v) e0 ops.size := by
            have hdi : dstAt ops i = o.dst := by simp [dstAt, ho]
            funext t
            by_cases hd : o.dst = some t
            · rw [updo_same hd]
              rw [envL_stop (i := i + 1) ops.size (by omega) (fun k h1 h2 h3 hk => ?_)]
              · simp only [envL]
                have : (listed.setIfInBounds i true).getD i true = true := by rw [hget]; simp
                rw [this, cond_true, updo_same (by rw [hdi]; exact hd)]
                simp [setv]
              · obtain ⟨ok, hok'⟩ : ∃ ok, ops[k]? = some ok := ⟨ops[k], by simp [h2]⟩
                have hki : k ≠ i := by omega
                rw [hget, if_neg hki] at h3
                have hne : edgeOn ok i = false := by
                  cases hh : edgeOn ok i with
                  | false => rfl
                  | true =>
                    obtain ⟨e, he, hb⟩ := edgeOn_iff hh
                    simp only [Bool.and_eq_true] at hb
                    have := hdc k ok h3 hok' e he hb.1
                    rw [Nat.eq_of_beq_eq_true hb.2] at this
                    have := toT i this
                    rw [hu] at this; cases this
                have hap := okR_apart hok hok' ho (by omega) hne
                obtain ⟨a1, a2, a3⟩ := Oper.apart_spec hap
                simp only [dstAt, hok', Option.bind_some] at hk
                exact a2 t hd hk
            · rw [updo_ne hd]
              have : ∀ n, envL ops (fun i => listed.getD i true) vals e0 n t = envL ops (fun j => (listed.setIfInBounds i true).getD j true) (setv vals i v) e0 n t := by
                intro n
                induction n with
                | zero => rfl
                | succ n ihn =>
                  simp only [envL]
                  by_cases hni : n = i
                  · subst hni
                    have e1 : (listed.setIfInBounds n true).getD n true = true := by rw [hget]; simp
                    rw [hu, e1, cond_false, cond_true, updo_ne (by rw [hdi]; exact hd)]
                    exact ihn
                  · rw [hget, if_neg hni]
                    cases listed.getD n true with
                    | false => simpa using ihn
                    | true =>
                      simp only [cond_true]
                      by_cases hdn : dstAt ops n = some t
                      · rw [updo_same hdn, updo_same hdn]; simp [setv, hni]
                      · rw [updo_ne hdn, updo_ne hdn]; exact ihn
              exact this _
          rw [henv]
          refine ih _ _ _ ?_ (htr _ _ _ hR hRw) ?_ ?_ (by simpa using hsz)
          · have := cnt_lt (f := fun i => !listed.getD i true) (g := fun j => !(listed.setIfInBounds i true).getD j true) (i := i) (fun j hj => by
              rw [hget] at hj
              by_cases hji : j = i
              · simp [hji] at hj
              · simpa [hji] using hj) (by simp only [hu]; rfl) (by rw [hget]; simp) ops.size hilt
            omega
          · intro j oj hj hoj e he hb
            rw [hget] at hj ⊢
            by_cases hji : j = i
            · subst hji
              rw [ho] at hoj; cases hoj
              split
              · rfl
              · exact hdeps e he hb
            · rw [if_neg hji] at hj
              split
              · rfl
              · exact hdc j oj hj hoj e he hb
          · intro j hjs hj
            by_cases hji : j = i
            · subst hji; simpa [setv] using hSv
            · rw [hget, if_neg hji] at hj
              simp only [setv, if_neg hji]
              exact hst j _ _ _ (hS j hjs hj) hRw
        unfold wpOpIn
        rw [ho]
        simp only []
        rw [yielded_frD hl]
        unfold OpG at hL
        rw [← hw] at hL
        split
        · rename_i hwt
          have hwt' : wantedE ops (envL ops (fun i => listed.getD i true) vals e0 ops.size) o = true := hwt
          rw [if_pos hwt'] at hL
          have hL' : OpTo P o (envL ops (fun i => listed.getD i true) vals e0 ops.size) w (fun v w' => R w w' ∧ S i v w') := by
            unfold OpTo at hL ⊢
            rw [hex]; exact hL
          exact (OpTo.wpIn holt hL' fun v w' hv => next v w' hv.1 hv.2)
        · rename_i hwt
          have hwt' : ¬ wantedE ops (envL ops (fun i => listed.getD i true) vals e0 ops.size) o = true := hwt
          rw [if_neg hwt'] at hL
          have hd : dstLt N o.dst = true := by simp only [opLt, Bool.and_eq_true] at holt; exact holt.1.2
          rw [frD_puto hd]
          exact ⟨fun f _ => Fw_fn ro f, next _ _ hL.1 hL.2⟩
  have := main ops.size (Array.replicate ops.size false) (fun _ => undef) w0 (by
    have h : ∀ n, cnt (fun i => !(Array.replicate ops.size false).getD i true) n ≤ n := by
      intro n
      induction n with
      | zero => simp [cnt]
      | succ n ih => simp only [cnt]; split <;> omega
    exact h _) h0 (by
      intro j o hj ho
      have : j < ops.size := (Array.getElem?_eq_some_iff.1 ho).1
      simp [Array.getD, this] at hj) (by
      intro j hj hl
      simp [Array.getD, hj] at hl) (by simp)
  have e1 : envL ops (fun i => (Array.replicate ops.size false).getD i true) (fun _ => undef) e0 ops.size = e0 := by
    have : ∀ n, n ≤ ops.size → envL ops (fun i => (Array.replicate ops.size false).getD i true) (fun _ => undef) e0 n = e0 := by
      intro n
      induction n with
      | zero => intro _; rfl
      | succ n ih =>
        intro hn
        have hlt : n < ops.size := by omega
        have hf : (Array.replicate ops.size false).getD n true = false := by simp [Array.getD, hlt]
        simp only [envL]
        rw [hf, cond_false]
        exact ih (by omega)
    exact this _ (Nat.le_refl _)
  rw [e1] at this
  exact this
theorem reg_any {ro : Option Nat} {n : Nat} {ds : List Deferred} {P : Program} {N id : Nat} {ops : Array Oper} {Q : Exit → Act → World → Prop} {e0 : Nat → Value} {w0 : World} {R : World → World → Prop} (S : Nat → Value → World → Prop)
    (hm : P.follows .mixedOrders = true) (hl : opsLt N ops = true) (hok : okR ops = true)
    (htr : ∀ a b c, R a b → R b c → R a c) (h0 : R w0 { w0 with drawn := w0.drawn + 1 }) (hr : R { w0 with drawn := w0.drawn + 1 } { w0 with drawn := w0.drawn + 1 })
    (hst : ∀ i v w w', S i v w → R w w' → S i v w')
    (hloc : ∀ i o, ops[i]? = some o → ∀ vals w, R w0 w → (∀ j, edgeOn o j = true → S j (vals j) w) → OpG P ops (envL ops (fun _ => true) vals e0 i) o w (fun v w' => R w w' ∧ S i v w'))
    (hfin : ∀ vals w, R w0 w → (∀ i, i < ops.size → S i (vals i) w) → Q .normal (FrD N (envL ops (fun _ => true) vals e0 ops.size) ds) w) :
    (Code.region id ops true).wpIn (Fw ro) n P Q (FrD N e0 ds) w0 :=
  wpIn_region_any hm (reg_anyW (w0 := { w0 with drawn := w0.drawn + 1 }) S hl hok htr hr hst (fun i o ho vals w hR => hloc i o ho vals w (htr _ _ _ h0 hR)) (fun vals w hR => hfin vals w (htr _ _ _ h0 hR)))
end Go.Vc
