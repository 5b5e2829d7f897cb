/- A part of the proof: steps and lemmas for the walks through the given program. -/
import Derived.Test.YteehplloacefmaaGy
import Derived.Test.YteehplloacefmaaVc35
import Derived.RecoverIn
namespace Go.Vc
set_option linter.unusedVariables false
theorem Ch1J.srcE {a k : Nat} {R0 : World → Prop} {R1 : Value → World → Prop} {done : Nat → Bool} {vals : Nat → Value} {w w' : World} {v : Value} (h0 : ∀ w w', Ext w w' → R0 w → R0 w') (h1 : ∀ v w w', Ext w w' → R1 v w → R1 v w') (j : Ch1J a R0 R1 done vals w) (e : Ext w w') (ha : a ≠ k) : Ch1J a R0 R1 (don done k) (setv vals k v) w' := by
  refine Ch1J.src ?_ ha
  unfold Ch1J at *
  by_cases hd : done a = true
  · rw [if_pos hd] at *; exact h1 _ _ _ e j
  · rw [if_neg hd] at *; exact h0 _ _ e j
theorem pv_sub {w : World} {q : Addr} {cs : List Value} (off n : Nat) (h : Pv w q cs) : Pv w (q.add off) ((cs.drop off).take n) := fun j u hu => by
  rw [List.getElem?_take] at hu
  split at hu
  · rw [add_add]; exact h _ _ (by simpa using hu)
  · cases hu
end Go.Vc

namespace Go.Vc
set_option linter.unusedVariables false
set_option linter.unusedSimpArgs false

/-! ### calls that end in a panic; frames with deferred calls -/
/-- f called with args panics, with R of the chain -/
def CallsP (P : Program) (f : FuncId) (args : Array Value) (w : World) (R : List PanicEntry → World → Prop) : Prop := Calls P f args w (fun en w' => ∃ ch, en = .panicked ch ∧ R ch w')
theorem CallsP.mono {P : Program} {f : FuncId} {args : Array Value} {w : World} {R R' : List PanicEntry → World → Prop} (h : CallsP P f args w R) (hr : ∀ v w', R v w' → R' v w') : CallsP P f args w R' :=
  Calls.mono h fun _ _ ⟨v, he, hv⟩ => ⟨v, he, hr _ _ hv⟩
section
variable {P : Program} {d : Option Tmp} {ty : TypeId} {p : String} {af : Array Edge} {g : Option (Nat × Bool)} {e : Nat → Value} {w : World} {K : List PanicEntry → World → Prop} {f : Operand} {x0 x1 x2 x3 x4 x5 : Operand} {v0 v1 v2 v3 v4 v5 : Value} {fn : Nat} {cap fst : Array Value} {ts : Array TypeId}
end

section
variable {ro : Option Nat} {m : Nat} {ds : List Deferred} {P : Program} {N : Nat} {Q : Exit → Act → World → Prop} {e : Nat → Value} {w : World} {a : Act} {X Y : Code} {fn : Func} {Kn : Act → World → Prop} {ch : List PanicEntry}
end

/-- f returns, with Rr, or panics, with Rp -/
def UR (Rr : Value → World → Prop) (Rp : List PanicEntry → World → Prop) : Ending → World → Prop := fun en w => (∃ v, en = .returned v ∧ Rr v w) ∨ (∃ ch, en = .panicked ch ∧ Rp ch w)
def CallsU (P : Program) (f : FuncId) (args : Array Value) (w : World) (Rr : Value → World → Prop) (Rp : List PanicEntry → World → Prop) : Prop := Calls P f args w (UR Rr Rp)
theorem CallsU.r {P : Program} {f : FuncId} {args : Array Value} {w : World} {Rr R : Value → World → Prop} {Rp : List PanicEntry → World → Prop} (h : CallsU P f args w Rr Rp) (hr : ∀ v w', Rr v w' → R v w') (hp : ∀ ch w', ¬ Rp ch w') : CallsR P f args w R :=
  Calls.mono h fun _ _ h => h.elim (fun ⟨v, he, hv⟩ => ⟨v, he, hr _ _ hv⟩) (fun ⟨ch, _, h⟩ => (hp _ _ h).elim)
theorem CallsU.p {P : Program} {f : FuncId} {args : Array Value} {w : World} {Rr : Value → World → Prop} {Rp R : List PanicEntry → World → Prop} (h : CallsU P f args w Rr Rp) (hr : ∀ v w', ¬ Rr v w') (hp : ∀ ch w', Rp ch w' → R ch w') : CallsP P f args w R :=
  Calls.mono h fun _ _ h => h.elim (fun ⟨v, _, hv⟩ => (hr _ _ hv).elim) (fun ⟨ch, he, h⟩ => ⟨ch, he, hp _ _ h⟩)
end Go.Vc

namespace Go.Vc
set_option linter.unusedVariables false
set_option linter.unusedSimpArgs false
/-! ### a region of any order, cut where guards of the later part lie in the earlier one and are known to hold -/
theorem put_off (a : Act) (d : Option Tmp) (v : Value) : ∀ t, d ≠ some t → (a.put d v).tmps[t]? = a.tmps[t]? := by
  intro t ht
  cases d with
  | none => rfl
  | some d =>
    have : d ≠ t := fun h => ht (by rw [h])
    simp [Act.put, Array.getElem?_setIfInBounds, this]
theorem wpIn_put {F : Fence} {n : Nat} {P : Program} {o : Oper} {a : Act} {w : World} {next : Act → World → Prop} {Q : Exit → Act → World → Prop} (hh : o.wpIn F n P a w next Q) :
    o.wpIn F n P a w (fun a' w' => next a' w' ∧ ∀ t, o.dst ≠ some t → a'.tmps[t]? = a.tmps[t]?) Q := by
  unfold Oper.wpIn at *
  refine ⟨hh.1, ?_⟩
  have hh := hh.2
  generalize (o.semAt F.round a.eval).run P w = r at *
  cases r with
  | ok x w' =>
    cases x <;> simp only [Oper.uponIn] at hh ⊢ <;>
      first
        | exact ⟨hh, put_off _ _ _⟩
        | exact ⟨hh.1, CallsIn.mono hh.2 (fun e w'' he => by cases e <;> first | exact ⟨he, put_off _ _ _⟩ | exact he)⟩
        | exact ⟨hh.1, RowsIn.mono hh.2 (fun _ _ he => ⟨he, put_off _ _ _⟩)⟩
        | exact ⟨hh.1, RoundIn.mono hh.2 (fun e w'' he => by cases e <;> first | exact ⟨he, put_off _ _ _⟩ | exact he)⟩
        | exact hh
  | halt h w' => cases h <;> first | exact hh | exact hh.elim
def InvG (m : Nat) (ops : Array Oper) (a : Act) : Prop := ∀ (j : Nat) (o : Oper) (g : Nat × Bool), ops[m + j]? = some o → o.guard = some g → g.1 < m → yielded ops a.tmps g.1 = some g.2
theorem InvG.put {m : Nat} {ops : Array Oper} {a a' : Act} {d : Option Tmp} (h : InvG m ops a) (hd : ∀ j' o' g, ops[m + j']? = some o' → o'.guard = some g → g.1 < m → ∀ t, (ops[g.1]?).bind (·.dst) = some t → d ≠ some t) (hp : ∀ t, d ≠ some t → a'.tmps[t]? = a.tmps[t]?) : InvG m ops a' := by
  intro j o g ho hg hm
  rw [← h j o g ho hg hm]
  unfold yielded
  cases hdst : (ops[g.1]?).bind (·.dst) with
  | none => rfl
  | some t => simp only [Option.bind_some]; rw [hp t (hd j o g ho hg hm t hdst)]
def shG (m : Nat) (o : Oper) : Oper := { shO m o with guard := match o.guard with | none => none | some g => if g.1 < m then none else some (g.1 - m, g.2) }
theorem wanted_shG {m : Nat} {ops Bs : Array Oper} {j : Nat} {o : Oper} {a : Act} (hB : ∀ j, Bs[j]? = (ops[m + j]?).map (shG m)) (ho : ops[m + j]? = some o) (hI : InvG m ops a) : Region.wanted (shG m o) (yielded Bs a.tmps) = Region.wanted o (yielded ops a.tmps) := by
  cases hgd : o.guard with
  | none => simp [Region.wanted, shG, hgd]
  | some g =>
    obtain ⟨i, b⟩ := g
    by_cases him : i < m
    · have := hI j o (i, b) ho hgd him
      simp only at this
      simp [Region.wanted, shG, hgd, him, this]
    · have hm : m + (i - m) = i := by omega
      have hy : yielded Bs a.tmps (i - m) = yielded ops a.tmps i := by
        unfold yielded
        have : ((Bs[i - m]?).bind (·.dst)) = ((ops[i]?).bind (·.dst)) := by
          rw [hB, hm]; cases ops[i]? <;> rfl
        rw [this]
      simp [Region.wanted, shG, hgd, hy, him]
section
variable {ro : Option Nat} {n : Nat} {P : Program} {Q : Exit → Act → World → Prop}
theorem phBG {m : Nat} {ops Bs : Array Oper} (hs : ops.size = m + Bs.size) (hB : ∀ j, Bs[j]? = (ops[m + j]?).map (shG m)) (hdst : ∀ j o j' o' g, ops[m + j]? = some o → ops[m + j']? = some o' → o'.guard = some g → g.1 < m → ∀ t, (ops[g.1]?).bind (·.dst) = some t → o.dst ≠ some t) :
    ∀ (f : Nat) (L lB : Array Bool) (a : Act) (w : World), L.size = ops.size → lB.size = Bs.size → (∀ i, i < m → L.getD i true = true) → (∀ j d, j < Bs.size → L.getD (m + j) d = lB.getD j d) → InvG m ops a →
      wpAnyIn (Fw ro) n P .any Bs Q f lB a w → wpAnyIn (Fw ro) n P .any ops Q f L a w := by
  have rdy : ∀ (L lB : Array Bool), L.size = ops.size → lB.size = Bs.size → (∀ i, i < m → L.getD i true = true) → (∀ j d, j < Bs.size → L.getD (m + j) d = lB.getD j d) → ∀ i, i ∈ Region.ready .any ops L → ∃ j o, i = m + j ∧ j < Bs.size ∧ ops[m + j]? = some o ∧ j ∈ Region.ready .any Bs lB := by
    intro L lB h1 h2 h3 h4 i hi
    obtain ⟨hu, o, ho, hd⟩ := mem_ready.1 hi
    have hlt : i < ops.size := (Array.getElem?_eq_some_iff.1 ho).1
    have him : m ≤ i := by
      rcases Nat.lt_or_ge i m with h | h
      · rw [h3 i h] at hu; cases hu
      · exact h
    obtain ⟨j, rfl⟩ : ∃ j, i = m + j := ⟨i - m, by omega⟩
    refine ⟨j, o, rfl, by omega, ho, mem_ready.2 ⟨by rw [← h4 j true zo]; exact hu, shG m o, by rw [hB, ho]; rfl, fun e he hb => ?_⟩⟩
    simp only [shG, shO, List.mem_toArray, List.mem_filterMap] at he
    obtain ⟨e0, he0, hs0⟩ := he
    unfold shE at hs0
    split at hs0
    · cases hs0
    · rename_i hge
      have hge' : m ≤ e0.on := by
        rcases Nat.lt_or_ge e0.on m with h | h
        · exact absurd (by simpa [Nat.blt] using (show e0.on + 1 ≤ m from h)) hge
        · exact h
      cases hs0
      have := hd e0 (by simpa using he0) (by simpa [Region.binds] using hb)
      have hlt2 : e0.on < ops.size := by
        rcases Nat.lt_or_ge e0.on ops.size with h | h
        · exact h
        · have : L.getD e0.on false = false := by simp [Array.getD, show ¬ e0.on < L.size by omega]
          simp_all
      have h5 := h4 (e0.on - m) false zo
      rw [show m + (e0.on - m) = e0.on by omega] at h5
      simp only []
      rw [← h5]; exact this
  intro f
  induction f with
  | zero =>
    intro L lB a w h1 h2 h3 h4 hI h
    refine ⟨?_, h.2⟩
    cases hr : Region.ready .any ops L with
    | nil => rfl
    | cons i l =>
      obtain ⟨j, o, _, _, _, hj⟩ := rdy L lB h1 h2 h3 h4 i (by rw [hr]; exact List.mem_cons_self)
      rw [h.1] at hj; cases hj
  | succ f ih =>
    intro L lB a w h1 h2 h3 h4 hI h
    refine ⟨fun hn => ?_, fun i hi => ?_⟩
    · refine h.1 ?_
      cases hr : Region.ready .any Bs lB with
      | nil => rfl
      | cons j l =>
        obtain ⟨hu, o', ho', hd⟩ := mem_ready.1 (show j ∈ Region.ready .any Bs lB by rw [hr]; exact List.mem_cons_self)
        have hjB : j < Bs.size := (Array.getElem?_eq_some_iff.1 ho').1
        rw [hB] at ho'
        cases ho : ops[m + j]? with
        | none => rw [ho] at ho'; cases ho'
        | some o =>
          rw [ho] at ho'; cases ho'
          have : m + j ∈ Region.ready .any ops L := mem_ready.2 ⟨by rw [h4 j true hjB]; exact hu, o, ho, fun e he hb => by
            rcases Nat.lt_or_ge e.on m with h5 | h5
            · have h6 := h3 e.on h5
              have h7 : e.on < L.size := by omega
              simp only [Array.getD, h7, dif_pos] at h6 ⊢; exact h6
            · have h6 := hd { e with on := e.on - m } (by
                simp only [shG, shO, List.mem_toArray, List.mem_filterMap]
                refine ⟨e, by simpa using he, ?_⟩
                unfold shE
                have : Nat.blt e.on m = false := by
                  cases hh : Nat.blt e.on m with
                  | false => rfl
                  | true => have : e.on + 1 ≤ m := by simpa [Nat.blt] using hh
                            omega
                rw [this]; rfl) (by simpa [Region.binds] using hb)
              simp only [] at h6
              have h7 : e.on - m < Bs.size := by
                rcases Nat.lt_or_ge (e.on - m) Bs.size with h | h
                · exact h
                · have : lB.getD (e.on - m) false = false := by simp [Array.getD, show ¬ e.on - m < lB.size by omega]
                  simp_all
              have h8 := h4 (e.on - m) false h7
              rw [show m + (e.on - m) = e.on by omega] at h8
              rw [h8]; exact h6⟩
          rw [hn] at this; cases this
    · obtain ⟨j, o, rfl, hjB, ho, hj⟩ := rdy L lB h1 h2 h3 h4 i hi
      have h5 := h.2 j hj
      unfold wpOpIn at h5 ⊢
      have hoB : Bs[j]? = some (shG m o) := by rw [hB, ho]; rfl
      rw [hoB] at h5
      rw [ho]
      simp only [] at h5 ⊢
      rw [wanted_shG hB ho hI] at h5
      have nxt : ∀ a w, InvG m ops a → wpAnyIn (Fw ro) n P .any Bs Q f (lB.setIfInBounds j true) a w → wpAnyIn (Fw ro) n P .any ops Q f (L.setIfInBounds (m + j) true) a w := fun a w hI6 h6 =>
        ih _ _ a w (by simpa using h1) (by simpa using h2) (fun i hi => by
          rw [getD_set zo, if_neg zo]; exact h3 i hi) (fun i d hi => by
          rw [getD_set zo, getD_set zo]
          by_cases hij : i = j
          · subst hij; simp
          · rw [if_neg zo, if_neg hij]; exact h4 i d hi) hI6 h6
      split
      · rename_i hw; rw [if_pos hw] at h5; exact Oper.wpIn_mono (fun a' w' h => nxt a' w' (hI.put (hdst j o · · · ho) h.2) h.1) (wpIn_put h5)
      · rename_i hw; rw [if_neg hw] at h5; exact ⟨h5.1, nxt _ _ (hI.put (hdst j o · · · ho) (put_off a o.dst undef)) h5.2⟩
theorem phAG {m : Nat} {ops As Bs : Array Oper} (hok : okR ops = true) (hbar : barB ops m = true) (hA : As.size = m) (hs : ops.size = m + Bs.size) (hAt : ∀ j, j < m → As[j]? = ops[j]?) (hB : ∀ j, Bs[j]? = (ops[m + j]?).map (shG m)) (hdst : ∀ j o j' o' g, ops[m + j]? = some o → ops[m + j']? = some o' → o'.guard = some g → g.1 < m → ∀ t, (ops[g.1]?).bind (·.dst) = some t → o.dst ≠ some t)
    (hgA : ∀ j o, j < m → ops[j]? = some o → match o.guard with | none => True | some g => g.1 < m) :
    ∀ (fA : Nat) (lA L : Array Bool) (a : Act) (w : World) (f : Nat), lA.size = m → L.size = ops.size → (∀ i d, i < m → L.getD i d = lA.getD i d) → (∀ i d, m ≤ i → i < ops.size → L.getD i d = false) →
      (∀ j oj, L.getD j false = true → ops[j]? = some oj → ∀ i ∈ bnd oj, L.getD i false = true) → cnt (fun i => !lA.getD i true) m ≤ fA → fA + Bs.size ≤ f →
      wpAnyIn (Fw ro) n P .any As (Exit.then (fun a w => InvG m ops a ∧ wpR ro n P Bs Q a w) Q) fA lA a w → wpAnyIn (Fw ro) n P .any ops Q f L a w := by
  have edge : ∀ (j : Nat) (o : Oper), ops[j]? = some o → ∀ i ∈ bnd o, i < j := fun j o ho i hi => by
    obtain ⟨e, he, hb, rfl⟩ := bnd_iff.1 hi
    exact okR_edges hok ho e he hb
  intro fA
  induction fA with
  | zero =>
    intro lA L a w f h1 h2 h3 h4 h5 hc hf h
    have hall := cnt_zero m (Nat.le_zero.1 hc)
    exact phBG hs hB hdst f L (Array.replicate Bs.size false) a w h2 (by simp) (fun i hi => by rw [h3 i true hi]; have := hall i hi; simpa using this) (fun j d hj => by rw [h4 (m + j) d zo zo]; simp [Array.getD, hj]) h.2.1 (wpAnyIn_more _ f _ a w zo h.2.2)
  | succ fA ih =>
    intro lA L a w f h1 h2 h3 h4 h5 hc hf h
    by_cases hall : ∀ i, i < m → lA.getD i true = true
    · have hn : Region.ready .any As lA = [] := by
        cases hr : Region.ready .any As lA with
        | nil => rfl
        | cons i l =>
          obtain ⟨hu, o, ho, _⟩ := mem_ready.1 (show i ∈ Region.ready .any As lA by rw [hr]; exact List.mem_cons_self)
          have : i < m := by rw [← hA]; exact (Array.getElem?_eq_some_iff.1 ho).1
          rw [hall i this] at hu; cases hu
      exact phBG hs hB hdst f L (Array.replicate Bs.size false) a w h2 (by simp) (fun i hi => by rw [h3 i true hi]; exact hall i hi) (fun j d hj => by rw [h4 (m + j) d zo zo]; simp [Array.getD, hj]) (h.1 hn).1 (wpAnyIn_more _ f _ a w zo (h.1 hn).2)
    · obtain ⟨f, rfl⟩ : ∃ f', f = f' + 1 := ⟨f - 1, by omega⟩
      have hex : ∃ i, i < m ∧ (fun i => !lA.getD i true) i = true := by
        apply Classical.byContradiction
        intro hne
        refine hall fun i hi => ?_
        cases hh : lA.getD i true with
        | true => rfl
        | false => exact absurd ⟨i, hi, by simp only [hh]; rfl⟩ hne
      refine ⟨fun hn => ?_, fun i hi => ?_⟩
      · obtain ⟨k, hk, hfk, hmin⟩ := least m hex
        obtain ⟨o, ho⟩ : ∃ o, ops[k]? = some o := ⟨ops[k], by simp [show k < ops.size by omega]⟩
        have : k ∈ Region.ready .any ops L := mem_ready.2 ⟨by rw [h3 k true hk]; simpa using hfk, o, ho, fun e he hb => by
          have hlt := okR_edges hok ho e he hb
          have h6 := hmin e.on hlt
          have h7 : lA.getD e.on true = true := by simpa using h6
          rw [h3 e.on false zo]
          have h8 : e.on < lA.size := by omega
          simp only [Array.getD, h8, dif_pos] at h7 ⊢
          exact h7⟩
        rw [hn] at this; cases this
      · obtain ⟨hu, o, ho, hd⟩ := mem_ready.1 hi
        have hilt : i < ops.size := (Array.getElem?_eq_some_iff.1 ho).1
        have hd' : ∀ j ∈ bnd o, L.getD j false = true := fun j hj => by
          obtain ⟨e, he, hb, rfl⟩ := bnd_iff.1 hj
          exact hd e he hb
        have him : i < m := by
          rcases Nat.lt_or_ge i m with h6 | h6
          · exact h6
          · exfalso
            refine hall fun t ht => ?_
            have := barB_sound hok hbar (L := fun j => L.getD j false = true) h5 ho h6 hd' t ht
            rw [h3 t false ht] at this
            have h8 : t < lA.size := by omega
            simp only [Array.getD, h8, dif_pos] at this ⊢
            exact this
        have hoA : As[i]? = some o := by rw [hAt i him, ho]
        have hiA : i ∈ Region.ready .any As lA := mem_ready.2 ⟨by rw [← h3 i true him]; exact hu, o, hoA, fun e he hb => by
          have hlt := okR_edges hok ho e he hb
          rw [← h3 e.on false zo]; exact hd e he hb⟩
        have h6 := h.2 i hiA
        unfold wpOpIn at h6 ⊢
        rw [hoA] at h6
        rw [ho]
        simp only [] at h6 ⊢
        have hwt : Region.wanted o (yielded As a.tmps) = Region.wanted o (yielded ops a.tmps) := by
          have hgg := hgA i o him ho
          unfold Region.wanted
          cases hgd : o.guard with
          | none => rfl
          | some g =>
            rw [hgd] at hgg
            simp only []
            have : yielded As a.tmps g.1 = yielded ops a.tmps g.1 := by unfold yielded; rw [hAt g.1 hgg]
            rw [this]
        rw [hwt] at h6
        have nxt : ∀ a w, wpAnyIn (Fw ro) n P .any As (Exit.then (fun a w => InvG m ops a ∧ wpR ro n P Bs Q a w) Q) fA (lA.setIfInBounds i true) a w → wpAnyIn (Fw ro) n P .any ops Q f (L.setIfInBounds i true) a w := fun a w h7 => by
          refine ih _ _ a w f (by simpa using h1) (by simpa using h2) (fun j d hj => ?_) (fun j d hj hj2 => ?_) (fun j oj hj hoj k hk => ?_) ?_ zo h7
          · rw [getD_set zo, getD_set zo, h3 j d hj]
          · rw [getD_set zo, if_neg zo]; exact h4 j d hj hj2
          · rw [getD_set zo] at hj ⊢
            by_cases hji : j = i
            · subst hji
              rw [ho] at hoj; cases hoj
              split
              · rfl
              · exact hd' k hk
            · rw [if_neg hji] at hj
              split
              · rfl
              · exact h5 j oj hj hoj k hk
          · have h8 : lA.getD i true = false := by rw [← h3 i true him]; exact hu
            have := cnt_lt (f := fun i => !lA.getD i true) (g := fun j => !(lA.setIfInBounds i true).getD j true) (i := i) (fun j hj => by
              rw [getD_set zo] at hj
              by_cases hji : j = i
              · simp [hji] at hj
              · simpa [hji] using hj) (by simp only [h8]; rfl) (by rw [getD_set zo]; simp) m him
            omega
        split
        · rename_i hw; rw [if_pos hw] at h6; exact Oper.wpIn_mono nxt (wpIn_thenQ h6)
        · rename_i hw; rw [if_neg hw] at h6; exact ⟨h6.1, nxt _ _ h6.2⟩
/-- the slots of the guards that lie ahead of the cut are not written behind it; the guards of the earlier part lie in it -/
def gGB (m : Nat) (l1 l2 : List Oper) : Bool := (l1.all fun o => match o.guard with | none => true | some g => Nat.blt g.1 m) && (l2.all fun o' => match o'.guard with | none => true | some g => !Nat.blt g.1 m || (match (l1[g.1]?).bind (·.dst) with | none => true | some t => l2.all fun o => match o.dst with | none => true | some d => !Nat.beq d t))
/-- the cut -/
theorem r_cutG {l : List Oper} {a : Act} {w : World} (m : Nat) (hm : Nat.ble m l.length = true) (hok : okR l.toArray = true) (hbar : barB l.toArray m = true) (hg : gGB m (l.take m) (l.drop m) = true)
    (h : wpR ro n P (l.take m).toArray (Exit.then (fun a w => InvG m l.toArray a ∧ wpR ro n P ((l.drop m).map (shG m)).toArray Q a w) Q) a w) : wpR ro n P l.toArray Q a w := by
  have hm' : m ≤ l.length := Nat.le_of_ble_eq_true hm
  simp only [gGB, Bool.and_eq_true] at hg
  have hsz : (l.take m).length = m := by simp; omega
  refine phAG (ops := l.toArray) (As := (l.take m).toArray) (Bs := ((l.drop m).map (shG m)).toArray) hok hbar (by simpa using hsz) (by simp; omega) (fun j hj => by simp [List.getElem?_take_of_lt hj]) (fun j => by simp) (fun j o j' o' g ho ho' hgd him t ht => ?_) (fun j o hj ho => ?_)
    m (Array.replicate (l.take m).toArray.size false) (Array.replicate l.toArray.size false) a w l.toArray.size (by simp; omega) (by simp) (fun i d hi => ?_) (fun i d hi hi2 => ?_) (fun j oj hj _ => ?_) (cnt_top _ _) ?_ (by simpa [wpR, hsz, Nat.min_eq_left hm'] using h)
  · have := List.all_eq_true.1 hg.2 o' (List.mem_of_getElem? (i := j') (by simpa using ho'))
    rw [hgd] at this
    simp only [] at this
    have hb : Nat.blt g.1 m = true := by
      have h1 : g.1 + 1 ≤ m := him
      simpa [Nat.blt] using h1
    rw [hb] at this
    have ht2 : ((l.take m)[g.1]?).bind (·.dst) = some t := by
      rw [List.getElem?_take_of_lt him]; simpa using ht
    rw [ht2] at this
    simp only [Bool.not_true, Bool.false_or] at this
    have h2 := List.all_eq_true.1 this o (List.mem_of_getElem? (i := j) (by simpa using ho))
    intro hd
    rw [hd] at h2
    simp at h2
  · have := List.all_eq_true.1 hg.1 o (List.mem_of_getElem? (i := j) (by simpa [List.getElem?_take_of_lt hj] using ho))
    cases hgd : o.guard with
    | none => trivial
    | some g => rw [hgd] at this; have h2 : g.1 + 1 ≤ m := by simpa [Nat.blt] using this
                exact h2
  · have h1 : i < l.length := by omega
    have h2 : i < (l.take m).length := by omega
    simp [Array.getD, h1, h2, hi]
    intro h3; omega
  · have h1 : i < l.length := by simpa using hi2
    simp [Array.getD, h1]
  · exfalso
    by_cases h1 : j < l.length
    · simp [Array.getD, h1] at hj
    · simp [Array.getD, h1] at hj
  · simp; omega
theorem invG_of {N m : Nat} {l : List Oper} {e : Nat → Value} {ds : List Deferred} (hl : opsLt N l.toArray = true) (h : ((l.drop m).all fun o => match o.guard with | none => true | some g => !Nat.blt g.1 m || (yieldE l.toArray e g.1 == some g.2)) = true) : InvG m l.toArray (FrD N e ds) := by
  intro j o g ho hg hm
  have := List.all_eq_true.1 h o (List.mem_of_getElem? (i := j) (by simpa using ho))
  rw [hg] at this
  simp only [] at this
  have hb : Nat.blt g.1 m = true := by
    have h1 : g.1 + 1 ≤ m := hm
    simpa [Nat.blt] using h1
  rw [hb] at this
  have h2 : yieldE l.toArray e g.1 = some g.2 := by simpa using this
  rw [yielded_frD hl]; exact h2
end
theorem SlV.pre {α : Type} {t : Ty α} {w : World} {F : Nat → Prop} {a : Option Addr} {n c h : Nat} {xs : List α} (hv : SlV t w F (.slice a n c) xs) (hh : h ≤ xs.length) : SlV t w F (.slice a h c) (xs.take h) := by
  obtain ⟨a', c', hv', h1, h2, h3, h4⟩ := hv
  cases hv'
  have hlen : (xs.take h).length = h := by simp; omega
  refine ⟨_, _, by rw [hlen], by rw [hlen]; omega, by omega, ?_, ?_⟩
  · intro hn; have := h3 hn; omega
  · intro i y hy
    have hi : i < h := by have := (List.getElem?_eq_some_iff.1 hy).1; rw [hlen] at this; exact this
    rw [List.getElem?_take, if_pos hi] at hy
    exact h4 _ _ hy
end Go.Vc

namespace Go.Vc
set_option linter.unusedVariables false
set_option linter.unusedSimpArgs false
/-! ### stores into one block, one behind the other, within a drawn stage: what the block holds after each is known -/
def BcJ (b : Nat) (T : TypeId) (as : List Nat) (css : List (List Value)) (done : Nat → Bool) (vals : Nat → Value) (w : World) : Prop :=
  ∃ c, c ≤ as.length ∧ (∀ i a, as[i]? = some a → (done a = true ↔ i < c)) ∧ Blk w b (css.getD c []) T
section
variable {b : Nat} {T : TypeId} {as : List Nat} {css : List (List Value)} {done : Nat → Bool} {vals : Nat → Value} {w w' : World}
theorem BcJ.start {cs : List Value} (h : Blk w b cs T) (h0 : css.getD 0 [] = cs) (hd : ∀ a ∈ as, done a = false) : BcJ b T as css done vals w :=
  ⟨0, Nat.zero_le _, fun i a ha => by rw [hd a (List.mem_of_getElem? ha)]; simp, by rw [h0]; exact h⟩
theorem BcJ.src {k : Nat} {v : Value} (j : BcJ b T as css done vals w) (e : Ext w w') (hk : (as.all fun a => !(Nat.beq a k)) = true) : BcJ b T as css (don done k) (setv vals k v) w' := by
  obtain ⟨c, hc, h1, h3⟩ := j
  refine ⟨c, hc, fun i a ha => ?_, h3.ext e⟩
  have hne : a ≠ k := fun he => by
    have := List.all_eq_true.1 hk a (List.mem_of_getElem? ha)
    rw [he] at this; simp at this
  simp only [don, if_neg hne]; exact h1 i a ha
theorem BcJ.at {n k : Nat} (j : BcJ b T as css done vals w) (hk : as[n]? = some k) (hd : done k = false) (hp : ∀ m, n = m + 1 → ∃ a, as[m]? = some a ∧ done a = true) : Blk w b (css.getD n []) T := by
  obtain ⟨c, hc, h1, h3⟩ := j
  have a1 : ¬ n < c := fun h => by have := (h1 n _ hk).2 h; rw [hd] at this; cases this
  have a2 : n ≤ c := by
    cases n with
    | zero => exact Nat.zero_le _
    | succ m => obtain ⟨a, ha, hda⟩ := hp m rfl; exact (h1 m a ha).1 hda
  have : c = n := by omega
  subst this; exact h3
theorem BcJ.step {n k : Nat} {u : Value} (j : BcJ b T as css done vals w) (hk : as[n]? = some k) (hd : done k = false) (hp : ∀ m, n = m + 1 → ∃ a, as[m]? = some a ∧ done a = true)
    (hone : ((List.range as.length).all fun i => !(Nat.beq (as.getD i 0) k) || Nat.beq i n) = true) (hB : Blk w' b (css.getD (n + 1) []) T) : BcJ b T as css (don done k) (setv vals k u) w' := by
  obtain ⟨c, hc, h1, h3⟩ := j
  have a1 : ¬ n < c := fun h => by have := (h1 n _ hk).2 h; rw [hd] at this; cases this
  have a2 : n ≤ c := by
    cases n with
    | zero => exact Nat.zero_le _
    | succ m => obtain ⟨a, ha, hda⟩ := hp m rfl; exact (h1 m a ha).1 hda
  have : c = n := by omega
  subst this
  have hlt := (List.getElem?_eq_some_iff.1 hk).1
  refine ⟨c + 1, by omega, fun i a ha => ?_, hB⟩
  by_cases hak : a = k
  · have hil := (List.getElem?_eq_some_iff.1 ha).1
    have := List.all_eq_true.1 hone i (List.mem_range.2 hil)
    have h9 : as.getD i 0 = a := by simp [List.getD, ha]
    rw [h9, hak] at this
    have hi : i = c := by simpa using this
    simp [don, hak, hi]
  · simp only [don, if_neg hak]
    rw [h1 i a ha]
    constructor
    · intro h; omega
    · intro h
      rcases Nat.lt_or_ge i c with h' | h'
      · exact h'
      · have : i = c := by omega
        subst this; rw [hk] at ha; cases ha; exact absurd rfl hak
theorem BcJ.fin {n : Nat} (j : BcJ b T as css (fun _ => true) vals w) (hn : as.length = n) : Blk w b (css.getD n []) T := by
  obtain ⟨c, hc, h1, h3⟩ := j
  have : c = n := by
    rcases Nat.lt_or_ge c as.length with h | h
    · have := (h1 c _ (List.getElem?_eq_getElem h)).1 rfl; omega
    · omega
  subst this; exact h3
end
theorem one_all {cs : List Value} (h : (cs.all fun u => u.oneCell') = true) : ∀ u ∈ cs, u.oneCell' = true := fun u hu => List.all_eq_true.1 h u hu
theorem inA_lt {n : Nat} {as : List Nat} (h : (as.all fun a => Nat.blt a n) = true) : ∀ a ∈ as, a < n := fun a ha => by
  have h1 : a + 1 ≤ n := by simpa [Nat.blt] using List.all_eq_true.1 h a ha
  exact h1
section
variable {P : Program} {N : Nat} {ops : Array Oper} {Q : Exit → Act → World → Prop} {K : Nat → Prop} {J : (Nat → Bool) → (Nat → Value) → World → Prop} {D : Nat → Bool} {e0 : Nat → Value} {w0 : World} {l : List Oper} {k : Nat} {S : Nat → Value → World → Prop}
/-- guarded, the value known -/
theorem rj_g1J {d : Option Tmp} {op : Op} {ty : TypeId} {p : String} {af : Array Edge} {g : Nat} {b c : Bool} {tt : Tmp} {t : Value} (hg : (ops[g]?).bind (·.dst) = some tt)
    (hc : ∀ vals w, (∀ j, edgeOn ⟨d, op, ty, p, af, some (g, b)⟩ j = true → S j (vals j) w) → envA ops vals e0 k tt = .bool c)
    (h : ∀ done vals w, Keep K w0 w → Closed ops done → done k = false → J done vals w → (∀ j, edgeOn ⟨d, op, ty, p, af, some (g, b)⟩ j = true → done j = true) → (∀ j, edgeOn ⟨d, op, ty, p, af, some (g, b)⟩ j = true → S j (vals j) w) → (c == b) = true → OpVat P ⟨d, op, ty, p, af, some (g, b)⟩ (envA ops vals e0 k) w t)
    (hj : ∀ done vals v w, done k = false → J done vals w → J (don done k) (setv vals k v) w)
    (r : RegJ P N ops Q K J e0 w0 l (k + 1) (setS S k (fun v _ => v = bif (c == b) then t else undef))) : RegJ P N ops Q K J e0 w0 (⟨d, op, ty, p, af, some (g, b)⟩ :: l) k S := by
  refine ⟨_, fun _ _ _ h _ => h, fun done vals w hR hcl hdk hJ hdn hd => ?_, r⟩
  unfold OpG
  rw [wanted1 hg (hc vals w hd)]
  cases hcb : (c == b) with
  | true => exact OpTo.of_v (h done vals w hR hcl hdk hJ hdn hd hcb) ⟨Keep.refl _, rfl, hj done vals _ w hdk hJ⟩
  | false => exact ⟨Keep.refl _, rfl, hj done vals _ w hdk hJ⟩
theorem rj_g1fJ {d : Option Tmp} {op : Op} {ty : TypeId} {p : String} {af : Array Edge} {g : Nat} {b c : Bool} {tt : Tmp} {t : Value} (hg : (ops[g]?).bind (·.dst) = some tt)
    (hc : ∀ vals w, (∀ j, edgeOn ⟨d, op, ty, p, af, some (g, b)⟩ j = true → S j (vals j) w) → envA ops vals e0 k tt = .bool c)
    (h : ∀ done vals w, Keep K w0 w → Closed ops done → done k = false → J done vals w → (∀ j, edgeOn ⟨d, op, ty, p, af, some (g, b)⟩ j = true → done j = true) → (∀ j, edgeOn ⟨d, op, ty, p, af, some (g, b)⟩ j = true → S j (vals j) w) → (c == b) = true → OpTo P ⟨d, op, ty, p, af, some (g, b)⟩ (envA ops vals e0 k) w (fun v w' => v = t ∧ Ext w w'))
    (hj : ∀ done vals v w w', done k = false → J done vals w → Ext w w' → J (don done k) (setv vals k v) w')
    (r : RegJ P N ops Q K J e0 w0 l (k + 1) (setS S k (fun v _ => v = bif (c == b) then t else undef))) : RegJ P N ops Q K J e0 w0 (⟨d, op, ty, p, af, some (g, b)⟩ :: l) k S := by
  refine ⟨_, fun _ _ _ h _ => h, fun done vals w hR hcl hdk hJ hdn hd => ?_, r⟩
  unfold OpG
  rw [wanted1 hg (hc vals w hd)]
  cases hcb : (c == b) with
  | true =>
    exact (h done vals w hR hcl hdk hJ hdn hd hcb).mono fun v w' hv => by
      obtain ⟨rfl, e⟩ := hv
      exact ⟨Ext.keep e, rfl, hj done vals _ w w' hdk hJ e⟩
  | false => exact ⟨Keep.refl _, rfl, hj done vals _ w w hdk hJ (Keep.refl _)⟩
end
end Go.Vc
