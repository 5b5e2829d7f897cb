/- A part of the proof: steps and lemmas for the walks through the given program. -/
import Derived.Test.YtifnkmflmgnfjaaNFr
import Derived.Test.YtifnkmflmgnfjaaGy
import Derived.Test.YtifnkmflmgnfjaaGc
import Derived.Test.YtifnkmflmgnfjaaGn
namespace Go.Vc
set_option linter.unusedVariables false
set_option linter.unusedSimpArgs false
/-! ### answers -/
abbrev PrV := List UInt8 × List UInt8
abbrev tPr : Ty PrV := tPair tBy tBy
abbrev tPrF : Ty PrV := tPair tByF tByF
abbrev AnV := Int × List PrV × List UInt8
abbrev tAn : Ty AnV := tPair (tInt .i64) (tPair (tSl tPr) tBy)
abbrev AdV := Int × AnV
abbrev tAd : Ty AdV := tPair (tInt .i64) tAn
theorem tPr_cells {w : World} {F : Nat → Prop} {cs : List Value} {r : PrV} (h : tPr.rep w F cs r) : ∃ a1 c1 a2 c2, cs = [.slice a1 r.1.length c1, .slice a2 r.2.length c2] ∧ Bv w F (.slice a1 r.1.length c1) r.1 ∧ Bv w F (.slice a2 r.2.length c2) r.2 := by
  obtain ⟨_, _, rfl, ⟨v1, rfl, h1⟩, v2, rfl, h2⟩ := h
  obtain ⟨a1, c1, rfl⟩ := h1.shape
  obtain ⟨a2, c2, rfl⟩ := h2.shape
  exact ⟨a1, c1, a2, c2, rfl, h1, h2⟩
theorem tPr_mk {w : World} {F : Nat → Prop} {v1 v2 : Value} {k v : List UInt8} (h1 : Bv w F v1 k) (h2 : Bv w F v2 v) : tPr.rep w F [v1, v2] (k, v) := ⟨[v1], [v2], rfl, ⟨v1, rfl, h1⟩, v2, rfl, h2⟩
theorem tPrF_mk {w : World} {F : Nat → Prop} {v1 v2 : Value} {k v : List UInt8} (h1 : BvF w F v1 k) (h2 : BvF w F v2 v) : tPrF.rep w F [v1, v2] (k, v) := ⟨[v1], [v2], rfl, h1, h2⟩
theorem imp_pr : Imp tPrF tPr := Imp.pair Imp.by Imp.by
theorem tAn_cells {w : World} {F : Nat → Prop} {cs : List Value} {a : AnV} (h : tAn.rep w F cs a) : ∃ a1 c1 a2 c2, cs = [.int .i64 a.1, .slice a1 a.2.1.length c1, .slice a2 a.2.2.length c2] ∧ SlV tPr w F (.slice a1 a.2.1.length c1) a.2.1 ∧ Bv w F (.slice a2 a.2.2.length c2) a.2.2 ∧ I64 a.1 := by
  obtain ⟨_, _, rfl, ⟨rfl, h0⟩, _, _, rfl, ⟨v1, rfl, h1⟩, v2, rfl, h2⟩ := h
  obtain ⟨a1, c1, rfl⟩ := h1.shape
  obtain ⟨a2, c2, rfl⟩ := h2.shape
  exact ⟨a1, c1, a2, c2, rfl, h1, h2, wf_i64 h0⟩
theorem tAn_mk {w : World} {F : Nat → Prop} {v1 v2 : Value} {e : Int} {ps : List PrV} {nx : List UInt8} (h1 : SlV tPr w F v1 ps) (h2 : Bv w F v2 nx) (he : I64 e) : tAn.rep w F [.int .i64 e, v1, v2] (e, ps, nx) := ⟨[_], [v1, v2], rfl, ⟨rfl, wf_of_i64 he⟩, [v1], [v2], rfl, ⟨v1, rfl, h1⟩, v2, rfl, h2⟩
theorem AgV.an {w : World} {F : Nat → Prop} {v : Value} {a : AnV} (h : AgV tAn w F v a) : ∃ a1 c1 a2 c2, v = .agg #[.int .i64 a.1, .slice a1 a.2.1.length c1, .slice a2 a.2.2.length c2] ∧ SlV tPr w F (.slice a1 a.2.1.length c1) a.2.1 ∧ Bv w F (.slice a2 a.2.2.length c2) a.2.2 ∧ I64 a.1 := by
  obtain ⟨cs, rfl, hr⟩ := h
  obtain ⟨a1, c1, a2, c2, rfl, h⟩ := tAn_cells hr
  exact ⟨a1, c1, a2, c2, rfl, h⟩
theorem AgV.mkAn {w : World} {F : Nat → Prop} {v1 v2 : Value} {e : Int} {ps : List PrV} {nx : List UInt8} (h1 : SlV tPr w F v1 ps) (h2 : Bv w F v2 nx) (he : I64 e) : AgV tAn w F (.agg #[.int .i64 e, v1, v2]) (e, ps, nx) := ⟨_, rfl, tAn_mk h1 h2 he⟩
theorem AgV.mkAn' {w : World} {F : Nat → Prop} {v1 v2 : Value} {a : AnV} (h1 : SlV tPr w F v1 a.2.1) (h2 : Bv w F v2 a.2.2) (he : I64 a.1) : AgV tAn w F (.agg #[.int .i64 a.1, v1, v2]) a := ⟨_, rfl, tAn_mk h1 h2 he⟩
theorem AgV.imp {α : Type} {s t : Ty α} (h : Imp s t) {w : World} {F : Nat → Prop} {v : Value} {x : α} (hv : AgV s w F v x) : AgV t w F v x := by
  obtain ⟨cs, hcs, hr⟩ := hv; exact ⟨cs, hcs, h.2 _ _ _ _ hr⟩
def an0 : AnV := (0, [], [])
theorem an0_ag {w : World} {F : Nat → Prop} : AgV tAn w F (.agg #[.int .i64 0, .slice none 0 0, .slice none 0 0]) an0 := AgV.mkAn (SlV.nil _ _ _) (SlV.nil _ _ _) ⟨by decide, by decide⟩
theorem tAd_cells {w : World} {F : Nat → Prop} {cs : List Value} {x : AdV} (h : tAd.rep w F cs x) : ∃ a1 c1 a2 c2, cs = [.int .i64 x.1, .int .i64 x.2.1, .slice a1 x.2.2.1.length c1, .slice a2 x.2.2.2.length c2] ∧ SlV tPr w F (.slice a1 x.2.2.1.length c1) x.2.2.1 ∧ Bv w F (.slice a2 x.2.2.2.length c2) x.2.2.2 ∧ I64 x.1 ∧ I64 x.2.1 := by
  obtain ⟨_, _, rfl, ⟨rfl, h0⟩, hr⟩ := h
  obtain ⟨a1, c1, a2, c2, rfl, h1, h2, h3⟩ := tAn_cells hr
  exact ⟨a1, c1, a2, c2, rfl, h1, h2, wf_i64 h0, h3⟩
theorem AgV.ad {w : World} {F : Nat → Prop} {v : Value} {x : AdV} (h : AgV tAd w F v x) : ∃ a1 c1 a2 c2, v = .agg #[.int .i64 x.1, .int .i64 x.2.1, .slice a1 x.2.2.1.length c1, .slice a2 x.2.2.2.length c2] ∧ SlV tPr w F (.slice a1 x.2.2.1.length c1) x.2.2.1 ∧ Bv w F (.slice a2 x.2.2.2.length c2) x.2.2.2 ∧ I64 x.1 ∧ I64 x.2.1 := by
  obtain ⟨cs, rfl, hr⟩ := h
  obtain ⟨a1, c1, a2, c2, rfl, h⟩ := tAd_cells hr
  exact ⟨a1, c1, a2, c2, rfl, h⟩
def badP (p : PrV) : Bool := decide (p.1.length < 1) || decide (24 < p.1.length) || decide (40 < p.2.length)
def mayAn (a : AnV) : Bool := decide (0 ≤ a.1) && decide (a.1 ≤ 13) && decide (a.2.1.length ≤ 32) && decide (a.2.2.length ≤ 25) && !a.2.1.any badP
theorem mayAn_iff {a : AnV} : mayAn a = true ↔ (0 ≤ a.1 ∧ a.1 ≤ 13) ∧ a.2.1.length ≤ 32 ∧ a.2.2.length ≤ 25 ∧ ∀ p ∈ a.2.1, 1 ≤ p.1.length ∧ p.1.length ≤ 24 ∧ p.2.length ≤ 40 := by
  unfold mayAn
  simp only [Bool.and_eq_true, decide_eq_true_eq, Bool.not_eq_true', List.any_eq_false, badP, Bool.or_eq_true, not_or, decide_eq_false_iff_not]
  constructor
  · rintro ⟨⟨⟨⟨h1, h2⟩, h3⟩, h4⟩, h5⟩
    refine ⟨⟨h1, h2⟩, h3, h4, fun p hp => ?_⟩
    have := h5 p hp; omega
  · rintro ⟨⟨h1, h2⟩, h3, h4, h5⟩
    refine ⟨⟨⟨⟨h1, h2⟩, h3⟩, h4⟩, fun p hp => ?_⟩
    have := h5 p hp; omega
/-- how much there is in an answer, up to a bound -/
def muL (most : Nat) : List PrV → Nat → Nat
  | [], n => n
  | p :: l, n => if most < n then n else muL most l (n + 1 + min p.1.length (most + 1) + min p.2.length (most + 1))
def muchA (most : Nat) (a : AnV) : Bool := decide (most < muL most a.2.1 (min a.2.2.length (most + 1)))
theorem muL_stop {most : Nat} : ∀ (l : List PrV) {n : Nat}, most < n → muL most l n = n
  | [], n, _ => rfl
  | p :: l, n, h => by rw [muL, if_pos h]
theorem muL_step {most : Nat} {l : List PrV} {i n : Nat} {p : PrV} (hx : l[i]? = some p) (hn : ¬ most < n) : muL most (l.drop i) n = muL most (l.drop (i + 1)) (n + 1 + min p.1.length (most + 1) + min p.2.length (most + 1)) := by
  have hlt := (List.getElem?_eq_some_iff.1 hx).1
  have h : l.drop i = p :: l.drop (i + 1) := by
    rw [List.drop_eq_getElem_cons hlt]
    rw [List.getElem?_eq_getElem hlt] at hx
    rw [Option.some.inj hx]
  rw [h, muL, if_neg hn]
end Go.Vc

namespace Go.Vc
set_option linter.unusedVariables false
set_option linter.unusedSimpArgs false
/-! ### tables -/
abbrev TbS := Int → Option AdV
def lkT (l : List (Int × AdV)) (k : Int) : Option AdV := (l.find? (fun p => decide (p.1 = k))).map (·.2)
def RelL (w : World) (F : Nat → Prop) : List (Int × AdV) → List (Int × Value) → Prop
  | [], [] => True
  | p :: l, q :: vs => q.1 = p.1 ∧ AgV tAd w F q.2 p.2 ∧ RelL w F l vs
  | _, _ => False
theorem RelL.keep {w w' : World} {F K : Nat → Prop} (k : Keep K w w') (hk : ∀ b, b < w.heap.size → F b → ¬ K b) : ∀ {l vs}, RelL w F l vs → RelL w' F l vs
  | [], [], _ => trivial
  | p :: l, q :: vs, h => ⟨h.1, h.2.1.keep k hk, RelL.keep k hk h.2.2⟩
  | [], _ :: _, h => h.elim
  | _ :: _, [], h => h.elim
theorem RelL.mono {w : World} {F F' : Nat → Prop} (hf : ∀ b, b < w.heap.size → F b → F' b) : ∀ {l vs}, RelL w F l vs → RelL w F' l vs
  | [], [], _ => trivial
  | p :: l, q :: vs, h => ⟨h.1, h.2.1.mono hf, RelL.mono hf h.2.2⟩
  | [], _ :: _, h => h.elim
  | _ :: _, [], h => h.elim
theorem RelL.len {w : World} {F : Nat → Prop} : ∀ {l vs}, RelL w F l vs → vs.length = l.length
  | [], [], _ => rfl
  | p :: l, q :: vs, h => by simp [RelL.len h.2.2]
  | [], _ :: _, h => h.elim
  | _ :: _, [], h => h.elim
theorem RelL.get {w : World} {F : Nat → Prop} (c : Int) : ∀ {l vs}, RelL w F l vs → (∀ x, lkT l c = some x → ∃ v, mpGet vs c = some v ∧ AgV tAd w F v x) ∧ (lkT l c = none → mpGet vs c = none)
  | [], [], _ => ⟨fun x h => (by cases h), fun _ => rfl⟩
  | p :: l, q :: vs, h => by
    have ih := RelL.get c h.2.2
    unfold lkT mpGet at ih ⊢
    by_cases hc : p.1 = c
    · have hq : q.1 = c := h.1.trans hc
      simp only [List.find?_cons, hc, hq, decide_true, Option.map_some]
      exact ⟨fun x hx => by cases hx; exact ⟨_, rfl, h.2.1⟩, fun hx => by cases hx⟩
    · have hq : ¬ q.1 = c := fun e => hc (h.1.symm.trans e)
      simp only [List.find?_cons, hc, hq, decide_false]
      exact ih
  | [], _ :: _, h => h.elim
  | _ :: _, [], h => h.elim
def setT : List (Int × AdV) → Int → AdV → List (Int × AdV)
  | [], k, v => [(k, v)]
  | p :: l, k, v => if p.1 = k then (k, v) :: l else p :: setT l k v
theorem RelL.set {w : World} {F : Nat → Prop} {c : Int} {v : Value} {x : AdV} (hv : AgV tAd w F v x) : ∀ {l vs}, RelL w F l vs → RelL w F (setT l c x) (mpSet vs c v)
  | [], [], _ => ⟨rfl, hv, trivial⟩
  | p :: l, q :: vs, h => by
    by_cases hc : p.1 = c
    · have hq : q.1 = c := h.1.trans hc
      simp only [setT, mpSet, hc, hq, if_true]
      exact ⟨rfl, hv, h.2.2⟩
    · have hq : ¬ q.1 = c := fun e => hc (h.1.symm.trans e)
      simp only [setT, mpSet, hc, hq, if_false]
      exact ⟨h.1, h.2.1, RelL.set hv h.2.2⟩
  | [], _ :: _, h => h.elim
  | _ :: _, [], h => h.elim
theorem setT_lk (l : List (Int × AdV)) (k c : Int) (x : AdV) : lkT (setT l k x) c = if c = k then some x else lkT l c := by
  induction l with
  | nil => unfold lkT setT; by_cases h : c = k <;> simp [h, eq_comm]
  | cons p l ih =>
    unfold lkT at ih ⊢
    by_cases hp : p.1 = k
    · by_cases hc : c = k
      · subst hc; simp [setT, hp]
      · have h2 : ¬ k = c := fun e => hc e.symm
        have h3 : ¬ p.1 = c := fun e => hc (e.symm.trans hp)
        simp [setT, hp, hc, h2, h3]
    · simp only [setT, hp, if_false, List.find?_cons]
      by_cases hc : p.1 = c
      · have h2 : ¬ c = k := fun e => hp (hc.trans e)
        simp [hc, h2]
      · simp only [hc, decide_false]
        exact ih
theorem setT_keys (l : List (Int × AdV)) (k : Int) (x : AdV) : ∀ c, c ∈ (setT l k x).map (·.1) ↔ c = k ∨ c ∈ l.map (·.1) := by
  induction l with
  | nil => intro c; simp [setT]
  | cons p l ih =>
    intro c
    by_cases hp : p.1 = k
    · simp only [setT, hp, if_true, List.map_cons, List.mem_cons]
      constructor
      · rintro (h | h)
        · exact .inl h
        · exact .inr (.inr h)
      · rintro (h | h | h)
        · exact .inl h
        · exact .inl h
        · exact .inr h
    · simp only [setT, hp, if_false, List.map_cons, List.mem_cons, ih c]
      constructor
      · rintro (h | h | h)
        · exact .inr (.inl h)
        · exact .inl h
        · exact .inr (.inr h)
      · rintro (h | h | h)
        · exact .inr (.inl h)
        · exact .inl h
        · exact .inr (.inr h)
theorem setT_nodup (l : List (Int × AdV)) (k : Int) (x : AdV) (h : (l.map (·.1)).Nodup) : ((setT l k x).map (·.1)).Nodup := by
  induction l with
  | nil => simp [setT]
  | cons p l ih =>
    simp only [List.map_cons, List.nodup_cons] at h
    by_cases hp : p.1 = k
    · simp only [setT, hp, if_true, List.map_cons, List.nodup_cons]
      exact ⟨hp ▸ h.1, h.2⟩
    · simp only [setT, hp, if_false, List.map_cons, List.nodup_cons]
      refine ⟨fun hm => ?_, ih h.2⟩
      rcases (setT_keys l k x p.1).1 hm with h2 | h2
      · exact hp h2
      · exact h.1 h2
theorem lkT_mem (l : List (Int × AdV)) (c : Int) : c ∈ l.map (·.1) ↔ (lkT l c).isSome = true := by
  induction l with
  | nil => simp [lkT]
  | cons p l ih =>
    unfold lkT at ih ⊢
    by_cases hp : p.1 = c
    · simp [hp]
    · have h2 : ¬ c = p.1 := fun e => hp e.symm
      simp only [List.map_cons, List.mem_cons, h2, false_or, List.find?_cons, hp, decide_false]
      exact ih
def updS (S : TbS) (c : Int) (x : AdV) : TbS := fun k => if k = c then some x else S k
def TbOk (S : TbS) : Prop := ∀ c x, S c = some x → (1 ≤ c ∧ c ≤ 4) ∧ (1 ≤ x.1 ∧ x.1 ≤ 2147483647) ∧ mayAn x.2 = true
def cntS (S : TbS) : Nat := ([1, 2, 3, 4].filter fun c => (S c).isSome).length
/-- a map is a table -/
def TbI (w : World) (F : Nat → Prop) (bm : Nat) (S : TbS) : Prop := ∃ (l : List (Int × AdV)) (vs : List (Int × Value)), MpB kInt w bm vs ∧ RelL w F l vs ∧ (l.map (·.1)).Nodup ∧ ∀ c, lkT l c = S c
theorem TbI.lt {w : World} {F : Nat → Prop} {bm : Nat} {S : TbS} (h : TbI w F bm S) : bm < w.heap.size := by
  obtain ⟨l, vs, h, _⟩ := h; exact h.lt
theorem TbI.keep {w w' : World} {F K : Nat → Prop} {bm : Nat} {S : TbS} (h : TbI w F bm S) (k : Keep K w w') (hk : ∀ b, b < w.heap.size → (F b ∨ b = bm) → ¬ K b) : TbI w' F bm S := by
  have hlt := h.lt
  obtain ⟨l, vs, h1, h2, h3, h4⟩ := h
  exact ⟨l, vs, h1.keep k (hk _ hlt (.inr rfl)), h2.keep k (fun b hb hf => hk b hb (.inl hf)), h3, h4⟩
theorem TbI.ext {w w' : World} {F : Nat → Prop} {bm : Nat} {S : TbS} (h : TbI w F bm S) (k : Ext w w') : TbI w' F bm S := h.keep k (fun _ _ _ x => x)
theorem TbI.mono {w : World} {F F' : Nat → Prop} {bm : Nat} {S : TbS} (h : TbI w F bm S) (hf : ∀ b, b < w.heap.size → F b → F' b) : TbI w F' bm S := by
  obtain ⟨l, vs, h1, h2, h3, h4⟩ := h
  exact ⟨l, vs, h1, h2.mono hf, h3, h4⟩
theorem TbI.new {w : World} {F : Nat → Prop} {bm : Nat} (h : MpB kInt w bm []) : TbI w F bm (fun _ => none) := ⟨[], [], h, trivial, by simp, fun c => rfl⟩
/-- what a look-up finds -/
def LkV (w : World) (F : Nat → Prop) (q : Option Value) : Option AdV → Prop
  | some x => ∃ v, q = some v ∧ AgV tAd w F v x
  | none => q = none
theorem TbI.look {w : World} {F : Nat → Prop} {bm : Nat} {S : TbS} (h : TbI w F bm S) (c : Int) : ∃ vs, MpB kInt w bm vs ∧ LkV w F (mpGet vs c) (S c) := by
  obtain ⟨l, vs, h1, h2, h3, h4⟩ := h
  refine ⟨vs, h1, ?_⟩
  have hg := h2.get c
  rw [h4 c] at hg
  cases hS : S c with
  | none => exact hg.2 hS
  | some x => exact hg.1 x hS
theorem cnt_len {l : List (Int × AdV)} {S : TbS} (hn : (l.map (·.1)).Nodup) (hl : ∀ c, lkT l c = S c) (ok : TbOk S) : l.length = cntS S := by
  have h1 : l.length = (l.map (·.1)).length := by simp
  rw [h1, cntS]
  apply List.Perm.length_eq
  apply (List.perm_ext_iff_of_nodup hn ?_).2
  · intro c
    rw [lkT_mem, hl c, List.mem_filter]
    constructor
    · intro h
      obtain ⟨x, hx⟩ := Option.isSome_iff_exists.1 h
      have := (ok c x hx).1
      refine ⟨?_, h⟩
      have h5 : c = 1 ∨ c = 2 ∨ c = 3 ∨ c = 4 := by omega
      rcases h5 with rfl | rfl | rfl | rfl <;> simp
    · intro h; exact h.2
  · exact List.Sublist.nodup List.filter_sublist zq
theorem TbI.len {w : World} {F : Nat → Prop} {bm : Nat} {S : TbS} (h : TbI w F bm S) (ok : TbOk S) : ∃ vs, MpB kInt w bm vs ∧ vs.length = cntS S := by
  obtain ⟨l, vs, h1, h2, h3, h4⟩ := h
  exact ⟨vs, h1, h2.len.trans (cnt_len h3 h4 ok)⟩
/-- a map is written -/
theorem TbI.set {w w' : World} {F F' : Nat → Prop} {bm : Nat} {S : TbS} {c : Int} {x : AdV} {v : Value} (h : TbI w F bm S) (hv : AgV tAd w F' v x) (hF : ∀ b, b < w.heap.size → F b → F' b) (hb : ∀ b, F' b → b ≠ bm)
    (k : Keep (fun i => i = bm) w w') (hm : ∀ vs, MpB kInt w bm vs → MpB kInt w' bm (mpSet vs c v)) : TbI w' F' bm (updS S c x) := by
  obtain ⟨l, vs, h1, h2, h3, h4⟩ := h
  refine ⟨setT l c x, mpSet vs c v, hm vs h1, ((h2.mono hF).set hv).keep k (fun b _ hf hK => hb b hf hK), setT_nodup l c x h3, fun q => ?_⟩
  rw [setT_lk, updS, h4 q]
/-- a table in its parts -/
def TbP (w : World) (F : Nat → Prop) (bm : Nat) (S : TbS) (l : List (Int × AdV)) (vs : List (Int × Value)) : Prop := MpB kInt w bm vs ∧ RelL w F l vs ∧ (l.map (·.1)).Nodup ∧ ∀ c, lkT l c = S c
theorem TbP.tb {w : World} {F : Nat → Prop} {bm : Nat} {S : TbS} {l vs} (h : TbP w F bm S l vs) : TbI w F bm S := ⟨l, vs, h⟩
theorem TbI.parts {w : World} {F : Nat → Prop} {bm : Nat} {S : TbS} (h : TbI w F bm S) : ∃ l vs, TbP w F bm S l vs := h
theorem TbP.lt {w : World} {F : Nat → Prop} {bm : Nat} {S : TbS} {l vs} (h : TbP w F bm S l vs) : bm < w.heap.size := h.1.lt
theorem TbP.keep {w w' : World} {F K : Nat → Prop} {bm : Nat} {S : TbS} {l vs} (h : TbP w F bm S l vs) (k : Keep K w w') (hk : ∀ b, b < w.heap.size → (F b ∨ b = bm) → ¬ K b) : TbP w' F bm S l vs :=
  ⟨h.1.keep k (hk _ h.1.lt (.inr rfl)), h.2.1.keep k (fun b hb hf => hk b hb (.inl hf)), h.2.2.1, h.2.2.2⟩
theorem TbP.mono {w : World} {F F' : Nat → Prop} {bm : Nat} {S : TbS} {l vs} (h : TbP w F bm S l vs) (hf : ∀ b, b < w.heap.size → F b → F' b) : TbP w F' bm S l vs := ⟨h.1, h.2.1.mono hf, h.2.2.1, h.2.2.2⟩
theorem TbP.ext {w w' : World} {F : Nat → Prop} {bm : Nat} {S : TbS} {l vs} (h : TbP w F bm S l vs) (k : Ext w w') : TbP w' F bm S l vs := h.keep k (fun _ _ _ x => x)
theorem TbP.set {w w' : World} {F F' : Nat → Prop} {bm : Nat} {S : TbS} {l vs} {c : Int} {x : AdV} {v : Value} (h : TbP w F bm S l vs) (hv : AgV tAd w F' v x) (hF : ∀ b, b < w.heap.size → F b → F' b) (hb : ∀ b, F' b → b ≠ bm)
    (k : Keep (fun i => i = bm) w w') (hm : MpB kInt w' bm (mpSet vs c v)) : TbI w' F' bm (updS S c x) := by
  obtain ⟨h1, h2, h3, h4⟩ := h
  refine ⟨setT l c x, mpSet vs c v, hm, ((h2.mono hF).set hv).keep k (fun b _ hf hK => hb b hf hK), setT_nodup l c x h3, fun q => ?_⟩
  rw [setT_lk, updS, h4 q]
def numS (S : TbS) (c : Int) : Int := match S c with
  | some x => x.1
  | none => 0
def ansS (S : TbS) (c : Int) : AnV := match S c with
  | some x => x.2
  | none => an0
theorem TbP.look {w : World} {F : Nat → Prop} {bm : Nat} {S : TbS} {l vs} (h : TbP w F bm S l vs) (c : Int) : ∃ a1 c1 a2 c2, (mpGet vs c).getD (.agg #[.int .i64 0, .int .i64 0, .slice none 0 0, .slice none 0 0]) = .agg #[.int .i64 (numS S c), .int .i64 (ansS S c).1, .slice a1 (ansS S c).2.1.length c1, .slice a2 (ansS S c).2.2.length c2] ∧
    SlV tPr w F (.slice a1 (ansS S c).2.1.length c1) (ansS S c).2.1 ∧ Bv w F (.slice a2 (ansS S c).2.2.length c2) (ansS S c).2.2 ∧ I64 (numS S c) ∧ I64 (ansS S c).1 ∧ (mpGet vs c).isSome = (S c).isSome := by
  have hg := h.2.1.get c
  rw [h.2.2.2 c] at hg
  unfold numS ansS
  cases hS : S c with
  | none =>
    rw [hg.2 hS]
    exact ⟨none, 0, none, 0, rfl, SlV.nil _ _ _, SlV.nil _ _ _, ⟨by decide, by decide⟩, ⟨by decide, by decide⟩, rfl⟩
  | some x =>
    obtain ⟨v, hv, hx⟩ := hg.1 x hS
    obtain ⟨a1, c1, a2, c2, rfl, h1, h2, h3, h4⟩ := hx.ad
    rw [hv]
    exact ⟨a1, c1, a2, c2, rfl, h1, h2, h3, h4, rfl⟩
end Go.Vc

namespace Go.Vc
set_option linter.unusedVariables false
set_option linter.unusedSimpArgs false
theorem BvF.empty {w : World} {F : Nat → Prop} {a : Option Addr} {c : Nat} (h : ∃ G, Bv w G (.slice a 0 c) []) : BvF w F (.slice a 0 c) [] := by
  obtain ⟨G, a', c', hv, h1, h2, h3, h4⟩ := h
  cases hv
  exact ⟨_, rfl, ⟨a, c, rfl, h1, h2, h3, fun i x hx => by simp at hx⟩, fun h => absurd rfl h⟩
end Go.Vc
