/- A part of the proof: steps and lemmas for the walks through the given program. -/
import Derived.Test.YtogafjlbpodgjaaCe
namespace Go.Proofs.Ytogafjlbpodgjaa
open Go.Vc
set_option linter.unusedVariables false
set_option linter.unusedSimpArgs false
set_option maxRecDepth 100000
theorem wBy_len {l : List UInt8} {k : Nat} (h : l.length < 128 ^ (k + 1)) : (wBytes l).length ≤ l.length + (k + 1) := by
  have := wNum_len k l.length h
  rw [wBytes, List.length_append]; omega
theorem spI_len {e : IkV} (h : mayIk e = true) : (spI e).length ≤ e.1.length + e.2.2.2.length + 13 := by
  obtain ⟨key, seq, kind, val⟩ := e
  simp only [mayIk, Bool.and_eq_true, decide_eq_true_eq, Bool.or_eq_true] at h
  obtain ⟨⟨⟨⟨⟨h1, h2⟩, h3⟩, h4⟩, h5⟩, h6⟩ := h
  have b1 := wBy_len (l := key) (k := 0) (by simp; omega)
  have b2 := wBy_len (l := val) (k := 2) (by simp; omega)
  have b3 := wNum_len 4 seq.toNat (by simp; omega)
  have hk : kind.toNat ≤ 2 := by rcases h6 with h6 | ⟨h6, _⟩ <;> omega
  have b4 := wNum_len 0 kind.toNat (by simp; omega)
  have b5 : (ikW (key, seq, kind, val)).length ≤ key.length + val.length + 10 := by
    simp only [ikW, List.length_append]
    split
    · omega
    · simp only [List.length_nil]; omega
  have b6 := wBy_len (l := ikW (key, seq, kind, val)) (k := 2) (by simp; omega)
  simp only [spI]; omega
theorem lsW_len {l : List IkV} (h : ∀ e ∈ l, mayIk e = true) : ((l.map spI).flatten).length ≤ 7 * (sumI l).toNat ∧ (l.length : Int) ≤ sumI l := by
  induction l with
  | nil => simp [sumI]
  | cons e k ih =>
    have i1 := ih (fun x hx => h x (List.mem_cons_of_mem _ hx))
    have i2 := spI_len (h e List.mem_cons_self)
    have i3 := sumI_nn k
    have i4 : 1 ≤ e.1.length := by
      have := h e List.mem_cons_self
      obtain ⟨key, seq, kind, val⟩ := e
      simp only [mayIk, Bool.and_eq_true, decide_eq_true_eq] at this
      exact this.1.1.1.1.1
    simp only [List.map_cons, List.flatten_cons, List.length_append, List.length_cons, sumI] at i1 ⊢
    omega
theorem cmW_len {c : CmV} (hm : mayCm c = true) (hs : sumI c.2.2.2.1 ≤ 60000) : (cmW c).length ≤ 1000000 := by
  obtain ⟨k, rq, mv, en, an, key, g⟩ := c
  obtain ⟨m1, m2, mrq, mmv, min, mke, mgr⟩ := mayCm_k hm
  have q1 := wNum_len10 (n := k.toNat) (by omega)
  simp only [cmW, List.length_append]
  split
  · rename_i h
    have hr := mrq h
    simp only [mayRq, nmB, Bool.and_eq_true, decide_eq_true_eq] at hr
    have q2 := wNum_len10 (n := rq.1.toNat) (by omega)
    have q3 := wNum_len10 (n := rq.2.1.toNat) (by omega)
    have q4 := akW_le hr.2
    simp only [List.length_append]; omega
  · split
    · rename_i h
      have := mvW_le (mmv h); omega
    · split
      · rename_i h
        obtain ⟨hmv, hem, hel, han⟩ := min h
        have q2 := mvW_le hmv
        obtain ⟨q3, q4⟩ := lsW_len (risE_may hem)
        have q5 := wNum_len10 (n := en.length) (by omega)
        have q6 : (wList spI en).length ≤ 420010 := by rw [wList, List.length_append]; simp only at hs; omega
        have q7 := wBy_le (l := wList spI en) (by omega)
        have q8 := wBy_le (l := an) (by omega)
        simp only [List.length_append]; omega
      · split
        · rename_i h
          have := wBy_le (l := key) (by have := mke h; omega); have := mke h; omega
        · split
          · rename_i h
            have h2 := mgr h
            have := wBy_le (l := key) (by omega)
            have := wNum_len10 (n := g.toNat) (by omega)
            simp only [List.length_append]; omega
          · simp only [List.length_nil]; omega
theorem CRead_any {w : World} {F : Nat → Prop} {v : Value} {l : List UInt8} (HS1 : Bv w F v l) (hl : l.length ≤ 1000000) : CallsR Try.prog 19 #[v] w (fun o w' => (∃ u c e, o = .tuple #[u, .int .i64 e] ∧ AgV tCm w' (fun i => w.heap.size ≤ i) u c ∧ ((e = 0 ∧ rdAll l = some c) ∨ (e = 4 ∧ c = cmZ ∧ rdAll l = none))) ∧ Ext w w') :=
  CallsR.mono (CRead_c HS1 hl) fun o w' ⟨⟨u, c, e, ho, HG, h⟩, e1⟩ => ⟨⟨u, c, e, ho, HG.imp imp_cm, h⟩, e1⟩
theorem _root_.Go.Vc.AgV.cm20 {w : World} {F : Nat → Prop} {v : Value} {c : CmV} (h : AgV tCm w F v c) : ∃ x0 x1 x2 x3 x4 x5 x6 x7 x8 x9 x10 x11 x12 x13 x14 x15 x16 x17 x18 x19 : Value, v = .agg #[x0, x1, x2, x3, x4, x5, x6, x7, x8, x9, x10, x11, x12, x13, x14, x15, x16, x17, x18, x19] := by
  obtain ⟨k, rq, mv, en, an, key, g⟩ := c
  obtain ⟨a1, c1, a2, c2, a3, c3, a4, c4, a5, c5, a6, c6, a7, c7, a8, c8, a9, c9, rfl, _⟩ := h.cm
  exact ⟨_, _, _, _, _, _, _, _, _, _, _, _, _, _, _, _, _, _, _, _, rfl⟩
end Go.Proofs.Ytogafjlbpodgjaa
