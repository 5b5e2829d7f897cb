/- A part of the proof: steps and lemmas for the walks through the given program. -/
import Derived.Test.YtogafjlbpodgjaaGreatC32
import Derived.Test.YtogafjlbpodgjaaGreatC17
namespace Go.Proofs.YtogafjlbpodgjaaGreat
open Go.Vc
set_option linter.unusedVariables false
set_option linter.unusedSimpArgs false
set_option maxRecDepth 100000

def cmT : CmV → List UInt8
  | (k, rq, mv, en, an, key, g) => if k = 2 then wNum rq.1.toNat ++ wNum rq.2.1.toNat ++ akW rq.2.2 else if k = 3 ∨ k = 5 ∨ k = 9 ∨ k = 10 then mvW mv else if k = 4 then mvW mv ++ wBytes (wList spI en) ++ wBytes an else if k = 6 ∨ k = 7 then wBytes key else if k = 8 then wBytes key ++ wNum g.toNat else []
theorem cmW_T (c : CmV) : cmW c = wNum c.1.toNat ++ cmT c := by obtain ⟨k, rq, mv, en, an, key, g⟩ := c; rfl
/-- whatever is written is read so -/
def Bk (l : List UInt8) (c : CmV) (s : QSt) : Prop := ∀ c0, mayCm c0 = true → l = cmW c0 → c = c0 ∧ s = ([], true)
theorem bk0 {l : List UInt8} {c0 : CmV} (hm : mayCm c0 = true) (h : l = cmW c0) : qV l = c0.1 ∧ qS 99 (l, true) = (cmT c0, true) ∧ (nmdC c0).1 = c0 := by
  have h1 : (nmdC c0).1 = c0 := by simp only [mayCm, Bool.and_eq_true, decide_eq_true_eq] at hm; exact hm.2
  have h2 : 1 ≤ c0.1 ∧ c0.1 ≤ 10 := by obtain ⟨k, rq, mv, en, an, key, g⟩ := c0; have := mayCm_k hm; exact ⟨this.1, this.2.1⟩
  obtain ⟨n, hn⟩ := Int.eq_ofNat_of_zero_le (show 0 ≤ c0.1 by omega)
  obtain ⟨e1, e2⟩ := qS_back (n := n) (m := 99) zo zq (cmT c0) true
  have h3 : l = wNum n ++ cmT c0 := by rw [h, cmW_T, hn]; rfl
  rw [h3, hn]; exact ⟨e1, e2, h1⟩
theorem bk2 {l : List UInt8} (hk : qV l = 2) : Bk l (2, (qV (qS 99 (l, true)).1, qV (qS 4 (qS 99 (l, true))).1, (qAk (qS 2147483647 (qS 4 (qS 99 (l, true))))).1), mv0, [], [], [], 0) (qAk (qS 2147483647 (qS 4 (qS 99 (l, true))))).2 := by
  rintro ⟨k, rq, mv, en, an, key, g⟩ hm h
  obtain ⟨e1, e2, m⟩ := bk0 hm h
  obtain ⟨m1, m2, mrq, mmv, min, mke, mgr⟩ := mayCm_k hm
  simp only at e1
  obtain rfl : k = 2 := by omega
  obtain ⟨rc, rn, ra⟩ := rq
  have hr := mrq rfl
  simp only [mayRq, nmB, Bool.and_eq_true, decide_eq_true_eq] at hr
  obtain ⟨⟨⟨r1, r2⟩, r3, r4⟩, r5⟩ := hr
  obtain ⟨rc, rfl⟩ := Int.eq_ofNat_of_zero_le (show 0 ≤ rc by omega)
  obtain ⟨rn, rfl⟩ := Int.eq_ofNat_of_zero_le (show 0 ≤ rn by omega)
  have ht : cmT (2, ((rc : Int), (rn : Int), ra), mv, en, an, key, g) = wNum rc ++ (wNum rn ++ akW ra) := by simp [cmT]
  rw [ht] at e2
  obtain ⟨f1, f2⟩ := qS_back (n := rc) (m := 4) zo zq (wNum rn ++ akW ra) true
  obtain ⟨f3, f4⟩ := qS_back (n := rn) (m := 2147483647) zo zq (akW ra) true
  have f5 := qAk_back r5 [] true
  rw [List.append_nil] at f5
  simp only [e2, f1, f2, f3, f4, f5]
  exact ⟨m, trivial⟩
theorem bkM {l : List UInt8} {n : Int} (hk : qV l = n) (hn : n = 3 ∨ n = 5 ∨ n = 9 ∨ n = 10) : Bk l (n, rq0, (qMv (qS 99 (l, true))).1, [], [], [], 0) (qMv (qS 99 (l, true))).2 := by
  rintro ⟨k, rq, mv, en, an, key, g⟩ hm h
  obtain ⟨e1, e2, m⟩ := bk0 hm h
  obtain ⟨m1, m2, mrq, mmv, min, mke, mgr⟩ := mayCm_k hm
  simp only at e1
  obtain rfl : k = n := by omega
  have hr := mmv hn
  have ht : cmT (k, rq, mv, en, an, key, g) = mvW mv := by have h2 : ¬ k = 2 := by omega
                                                           simp only [cmT, if_neg h2, if_pos hn]
  have hm2 : (nmdC (k, rq, mv, en, an, key, g)).1 = (k, rq0, mv, [], [], [], 0) := by
    have h1 : ¬ k = 1 := by omega
    have h2 : ¬ k = 2 := by omega
    simp only [nmdC, if_neg h1, if_neg h2, if_pos hn]
  rw [ht] at e2
  have f5 := qMv_back hr [] true
  rw [List.append_nil] at f5
  rw [hm2] at m
  simp only [e2, f5]
  exact ⟨m, trivial⟩
theorem bkK {l : List UInt8} {n : Int} (hk : qV l = n) (hn : n = 6 ∨ n = 7) : Bk l (n, rq0, mv0, [], [], qB 24 (qS 99 (l, true)).1, 0) (qBS 24 (qS 99 (l, true))) := by
  rintro ⟨k, rq, mv, en, an, key, g⟩ hm h
  obtain ⟨e1, e2, m⟩ := bk0 hm h
  obtain ⟨m1, m2, mrq, mmv, min, mke, mgr⟩ := mayCm_k hm
  simp only at e1
  obtain rfl : k = n := by omega
  have hr := mke hn
  have h1 : ¬ k = 1 := by omega
  have h2 : ¬ k = 2 := by omega
  have h3 : ¬ (k = 3 ∨ k = 5 ∨ k = 9 ∨ k = 10) := by omega
  have h4 : ¬ k = 4 := by omega
  have ht : cmT (k, rq, mv, en, an, key, g) = wBytes key := by simp only [cmT, if_neg h2, if_neg h3, if_neg h4, if_pos hn]
  have hm2 : (nmdC (k, rq, mv, en, an, key, g)).1 = (k, rq0, mv0, [], [], key, 0) := by simp only [nmdC, if_neg h1, if_neg h2, if_neg h3, if_neg h4, if_pos hn]
  rw [ht] at e2
  obtain ⟨f1, f2⟩ := qB_back (x := key) (m := 24) hr.2 zq [] true
  rw [List.append_nil] at f1 f2
  rw [hm2] at m
  simp only [e2, f1, f2]
  exact ⟨m, trivial⟩
theorem bk8 {l : List UInt8} (hk : qV l = 8) : Bk l (8, rq0, mv0, [], [], qB 24 (qS 99 (l, true)).1, qV (qBS 24 (qS 99 (l, true))).1) (qS 5 (qBS 24 (qS 99 (l, true)))) := by
  rintro ⟨k, rq, mv, en, an, key, g⟩ hm h
  obtain ⟨e1, e2, m⟩ := bk0 hm h
  obtain ⟨m1, m2, mrq, mmv, min, mke, mgr⟩ := mayCm_k hm
  simp only at e1
  obtain rfl : k = 8 := by omega
  obtain ⟨h1, h2, h3⟩ := mgr rfl
  obtain ⟨g, rfl⟩ := Int.eq_ofNat_of_zero_le (show 0 ≤ g by omega)
  have ht : cmT (8, rq, mv, en, an, key, (g : Int)) = wBytes key ++ wNum g := by simp [cmT]
  rw [ht] at e2
  obtain ⟨f1, f2⟩ := qB_back (x := key) (m := 24) h1 zq (wNum g) true
  obtain ⟨f3, f4⟩ := qS_back (n := g) (m := 5) zo zq [] true
  rw [List.append_nil] at f3 f4
  simp only [e2, f1, f2, f3, f4]
  exact ⟨m, trivial⟩
theorem bk4 {l : List UInt8} {n : Nat} {es : List IkV} {e : Int} (hn : l.length ≤ n) (hn2 : n ≤ 1000000) (hk : qV l = 4) (he : ∀ en, IsLs (qB n (qMv (qS 99 (l, true))).2.1) en → es = en ∧ e = 0) : Bk l (4, rq0, (qMv (qS 99 (l, true))).1, es, qB 524288 (qBS n (qMv (qS 99 (l, true))).2).1, [], 0) (qBS 524288 ((qBS n (qMv (qS 99 (l, true))).2).1, (qBS n (qMv (qS 99 (l, true))).2).2 && decide (e = 0))) := by
  rintro ⟨k, rq, mv, en, an, key, g⟩ hm h
  obtain ⟨e1, e2, m⟩ := bk0 hm h
  obtain ⟨m1, m2, mrq, mmv, min, mke, mgr⟩ := mayCm_k hm
  simp only at e1
  obtain rfl : k = 4 := by omega
  obtain ⟨h1, h2, h3, h4⟩ := min rfl
  have ht : cmT (4, rq, mv, en, an, key, g) = mvW mv ++ (wBytes (wList spI en) ++ wBytes an) := by simp [cmT]
  have hb : (wList spI en).length ≤ n := by
    have h5 := congrArg List.length h
    rw [cmW_T, ht, List.length_append, List.length_append, List.length_append, wBytes, List.length_append] at h5
    omega
  rw [ht] at e2
  have f5 := qMv_back h1 (wBytes (wList spI en) ++ wBytes an) true
  obtain ⟨f1, f2⟩ := qB_back (x := wList spI en) (m := n) hb zo (wBytes an) true
  obtain ⟨f3, f4⟩ := qB_back (x := an) (m := 524288) h4 zq [] true
  rw [List.append_nil] at f3 f4
  simp only [e2, f5, f1] at he
  obtain ⟨rfl, rfl⟩ := he en ⟨risE_may h2, h3, rfl⟩
  simp only [e2, f5, f1, f2]
  simp only [decide_true, Bool.and_true, f3, f4]
  exact ⟨m, trivial⟩
theorem bkN {l : List UInt8} (h2 : ¬ qV l = 2) (h3 : ¬ qV l = 3) (h5 : ¬ qV l = 5) (h9 : ¬ qV l = 9) (h10 : ¬ qV l = 10) (h4 : ¬ qV l = 4) (h6 : ¬ qV l = 6) (h7 : ¬ qV l = 7) (h8 : ¬ qV l = 8) : Bk l (qV l, rq0, mv0, [], [], [], 0) (qS 99 (l, true)) := by
  rintro ⟨k, rq, mv, en, an, key, g⟩ hm h
  obtain ⟨e1, e2, m⟩ := bk0 hm h
  obtain ⟨m1, m2, mrq, mmv, min, mke, mgr⟩ := mayCm_k hm
  simp only at e1
  obtain rfl : k = 1 := by omega
  have ht : cmT (1, rq, mv, en, an, key, g) = [] := by simp [cmT]
  rw [ht] at e2
  rw [e2, e1]
  exact ⟨m, rfl⟩
theorem rd_no {l : List UInt8} {c : CmV} {s : QSt} (hb : Bk l c s) (h : ¬ (s.2 = true ∧ s.1 = [] ∧ mayCm c = true ∧ cmW c = l)) : rdAll l = none := by
  rcases hr : rdAll l with _ | x
  · rfl
  · obtain ⟨h1, h2⟩ := rdAll_ok hr
    obtain ⟨rfl, rfl⟩ := hb x h1 h2.symm
    exact absurd ⟨rfl, rfl, h1, h2⟩ h
theorem _root_.Go.Vc.AgV.cm20 {w : World} {F : Nat → Prop} {v : Value} {c : CmV} (h : AgV tCm w F v c) : ∃ x0 x1 x2 x3 x4 x5 x6 x7 x8 x9 x10 x11 x12 x13 x14 x15 x16 x17 x18 x19 : Value, v = .agg #[x0, x1, x2, x3, x4, x5, x6, x7, x8, x9, x10, x11, x12, x13, x14, x15, x16, x17, x18, x19] := by
  obtain ⟨k, rq, mv, en, an, key, g⟩ := c
  obtain ⟨a1, c1, a2, c2, a3, c3, a4, c4, a5, c5, a6, c6, a7, c7, a8, c8, a9, c9, rfl, _⟩ := h.cm
  exact ⟨_, _, _, _, _, _, _, _, _, _, _, _, _, _, _, _, _, _, _, _, rfl⟩
end Go.Proofs.YtogafjlbpodgjaaGreat
