/- A part of the proof: steps and lemmas for the walks through the given program. -/
import Derived.Test.YthnpnniiejcnbaaW21
namespace Go.Proofs.Ythnpnniiejcnbaa
open Go.Vc
set_option linter.unusedVariables false
set_option linter.unusedSimpArgs false
set_option maxRecDepth 100000

/-- what the document's reader hands back -/
def TryF {α : Type} (t : Ty α) (w w' : World) (b : Nat) (F : Nat → Prop) (l : List UInt8) : Except Int (List α × List UInt8) → Value → Prop
  | .ok (x, l2), r => ∃ a c, r = .tuple #[.slice a x.length c, .int .i64 0] ∧ SlV t w' (fun k => w.heap.size ≤ k) (.slice a x.length c) x ∧ Rf w' b F l2
  | .error e, r => e ≠ 0 ∧ r = .tuple #[.slice none 0 0, .int .i64 e] ∧ Rf w' b F l
theorem TryF_any {α : Type} {t : Ty α} {w w' : World} {b : Nat} {F : Nat → Prop} {l : List UInt8} {q : Except Int (List α × List UInt8)} {r : Value} (h : TryF t w w' b F l q r) :
    ∃ (a : Option Addr) (c : Nat) (e : Int) (xs : List α) (l2 : List UInt8), r = .tuple #[.slice a xs.length c, .int .i64 e] ∧ SlV t w' (fun k => w.heap.size ≤ k) (.slice a xs.length c) xs ∧ Rf w' b F l2 ∧ ((e = 0 ∧ q = .ok (xs, l2)) ∨ (e ≠ 0 ∧ xs = [] ∧ l2 = l ∧ q = .error e)) := by
  match q, h with
  | .ok (x, l2), ⟨a, c, hr, h1, h2⟩ => exact ⟨a, c, 0, x, l2, hr, h1, h2, .inl ⟨rfl, rfl⟩⟩
  | .error e, ⟨he, hr, h2⟩ => exact ⟨none, 0, e, [], l, hr, SlV.nil _ _ _, h2, .inr ⟨he, rfl, rfl, rfl⟩⟩

theorem refRBytes_c {w : World} {b : Nat} {F : Nat → Prop} {l : List UInt8} {most : Int} (hr : Rf w b F l) (hF : ∀ k, F k → k < w.heap.size) (hFb : ¬ F b) (hm : 0 ≤ most) (hm2 : most ≤ 9223372036854775807) (hl : l.length ≤ 140737488355300) : CallsR Try.prog 50 #[.pointer (some ⟨b, 0, none⟩), .int .i64 most] w (fun r w' => TryF tU8 w w' b F l (rdBytes most.toNat l) r ∧ Keep (fun k => k = b) w w') := by
  obtain ⟨v, hb, hv⟩ := hr
  obtain ⟨a, c, rfl⟩ := hv.shape
  have hblt := hb.lt
  refine enter 56 Try.func50 rfl rfl (by simp) ?_
  refine c_seq ?_
  refine wp_reg (by decide +kernel) ?_
  refine l_v (v_assign rfl) ?_
  refine l_v (v_assign rfl) ?_
  refine l_nil ?_
  refine n_then ?_
  refine c_seq ?_
  refine wp_reg (by decide +kernel) ?_
  refine l_v (v_move (t := .pointer _) rfl) ?_
  refine l_v (v_nilCheck rfl) ?_
  refine l_v (v_fieldAddr (off := 0) (ft := 22) (by kernel_rfl) rfl) ?_
  refine l_v (v_load (by kernel_rfl) rfl (hb.pv 0 _ rfl)) ?_
  refine l_v (v_assign (t := .slice _ _ _) rfl) ?_
  refine l_nil ?_
  refine n_then ?_
  refine c_seq ?_
  refine wp_reg (by decide +kernel) ?_
  refine l_v (v_move (t := .pointer _) rfl) ?_
  refine l_v (v_move (t := .int _ _) rfl) ?_
  refine l_to (to_f2 (by kernel_rfl) (show _ = (Value.pointer _) from rfl) (show _ = (Value.int _ _) from rfl) (CallsR.mono (many_c ⟨_, hb, hv⟩ hFb hm hm2) ?_))
  rintro r w1 ⟨⟨n, e, hr1, hnl, hnx⟩, r1, k1⟩
  have zs_k1 := k1.size
  subst hr1
  obtain ⟨v1, hb1, hv1⟩ := r1
  obtain ⟨a1, c1, rfl⟩ := hv1.shape
  have hmx := hv1.max
  simp only [maxLen] at hmx
  have hv' := hv.keep k1 (fun i hi h he => hFb (by subst he; exact h))
  have hq : rdBytes most.toNat l = (if e = 0 then (if n ≤ (rest l).length then .ok ((rest l).take n, (rest l).drop n) else .error 4) else .error e) := by
    rw [rdBytes, tryRd]
    rcases hnx with ⟨he, hd, hle⟩ | ⟨he, hn0, m, hd, hle⟩ | ⟨he, hn0, hd⟩
    · rw [hd, if_pos he]; simp only [if_pos hle, rdSome]
    · rw [hd, he]; simp only [if_neg hle]; rfl
    · rw [hd, he]; rfl
  refine l_v (v_move (t := .tuple _) rfl) ?_
  refine l_v (v_extract (t := .int _ _) rfl rfl) ?_
  refine l_v (v_extract (t := .int _ _) rfl rfl) ?_
  refine l_v (v_assign (t := .int _ _) rfl) ?_
  refine l_v (v_assign (t := .int _ _) rfl) ?_
  refine l_nil ?_
  refine n_then ?_
  refine c_seq ?_
  refine c_seq ?_
  refine wp_reg (by decide +kernel) ?_
  refine l_v (v_move (t := .int _ _) rfl) ?_
  refine l_v (v_eql rfl rfl) ?_
  refine l_v (v_move (t := .bool _) rfl) ?_
  refine l_g1 rfl rfl (fun hG => v_move (t := .int _ _) rfl) ?_
  refine l_g1 rfl rfl (fun hG => v_move (t := .pointer _) rfl) ?_
  refine l_g1 rfl rfl (fun hG => v_nilCheck (gd hG rfl)) ?_
  refine l_g1 rfl rfl (fun hG => v_fieldAddr (off := 0) (ft := 22) (by kernel_rfl) (gd hG rfl)) ?_
  refine l_g1 rfl rfl (fun hG => v_load (by kernel_rfl) (gd hG rfl) (hb1.pv 0 _ rfl)) ?_
  refine l_g1 rfl rfl (fun hG => v_len (et := 5) (by kernel_rfl) (gd hG rfl)) ?_
  refine l_g1 rfl rfl (fun hG => v_conv (ds := .int .i64) (by kernel_rfl) (by kernel_rfl) (gd hG rfl) (by first | exact wr_u64 (by omega) (by omega) | rfl)) ?_
  refine l_g1 rfl rfl (fun hG => v_gtr (gd hG rfl) (gd hG rfl)) ?_
  refine l_v (v_and rfl rfl) ?_
  refine l_nil ?_
  refine n_then ?_
  refine c_cond rfl rfl (fun hc => ?_) (fun hc => ?_)
  · skip
    simp only [Bool.and_eq_true, decide_eq_true_eq] at hc
    refine wp_reg (by decide +kernel) ?_
    refine l_v (v_assign rfl) ?_
    refine l_nil ?_
    refine n_then ?_
    refine c_seq ?_
    refine c_seq ?_
    refine wp_reg (by decide +kernel) ?_
    refine l_v (v_move (t := .int _ _) rfl) ?_
    refine l_v (v_neq rfl rfl) ?_
    refine l_nil ?_
    refine n_then ?_
    refine c_cond rfl rfl (fun hc5 => ?_) (fun hc5 => ?_)
    · skip
      refine c_seq ?_
      refine wp_reg (by decide +kernel) ?_
      refine l_v (v_move (t := .pointer _) rfl) ?_
      refine l_v (v_move (t := .slice _ _ _) rfl) ?_
      refine l_v (v_nilCheck rfl) ?_
      refine l_v (v_fieldAddr (off := 0) (ft := 22) (by kernel_rfl) rfl) ?_
      refine l_to (to_store rfl rfl (show _ = (Value.slice _ _ _) from rfl) rfl (by kernel_rfl) hb1 (by simp) ?_)
      rintro w2 h2 k2 z2
      have zs_k2 := k2.size
      refine l_nil ?_
      refine n_then ?_
      refine c_seq ?_
      refine wp_reg (by decide +kernel) ?_
      refine l_v (v_move (t := .int _ _) rfl) ?_
      refine l_v (v_assign rfl) ?_
      refine l_v (v_assign (t := .int _ _) rfl) ?_
      refine l_nil ?_
      refine n_then ?_
      refine wp_ret ?_
      refine r_then ?_
      refine ret2 rfl (by decide) (by decide) ?_
      rw [hq, if_pos hc.1, if_neg (by omega)]
      exact ⟨⟨by decide, rfl, _, h2, hv'.keep k2 fun i hi h he => hFb (by subst he; exact h)⟩, k1.trans k2⟩
    · skip
      simp at hc5
  · skip
    refine wp_skip ?_
    refine n_then ?_
    refine c_seq ?_
    refine c_seq ?_
    refine wp_reg (by decide +kernel) ?_
    refine l_v (v_move (t := .int _ _) rfl) ?_
    refine l_v (v_neq rfl rfl) ?_
    refine l_nil ?_
    refine n_then ?_
    refine c_cond rfl rfl (fun hc5 => ?_) (fun hc5 => ?_)
    · skip
      have he : e ≠ 0 := by simpa using hc5
      refine c_seq ?_
      refine wp_reg (by decide +kernel) ?_
      refine l_v (v_move (t := .pointer _) rfl) ?_
      refine l_v (v_move (t := .slice _ _ _) rfl) ?_
      refine l_v (v_nilCheck rfl) ?_
      refine l_v (v_fieldAddr (off := 0) (ft := 22) (by kernel_rfl) rfl) ?_
      refine l_to (to_store rfl rfl (show _ = (Value.slice _ _ _) from rfl) rfl (by kernel_rfl) hb1 (by simp) ?_)
      rintro w2 h2 k2 z2
      have zs_k2 := k2.size
      refine l_nil ?_
      refine n_then ?_
      refine c_seq ?_
      refine wp_reg (by decide +kernel) ?_
      refine l_v (v_move (t := .int _ _) rfl) ?_
      refine l_v (v_assign rfl) ?_
      refine l_v (v_assign (t := .int _ _) rfl) ?_
      refine l_nil ?_
      refine n_then ?_
      refine wp_ret ?_
      refine r_then ?_
      refine ret2 rfl (by decide) (by decide) ?_
      rw [hq, if_neg he]
      exact ⟨⟨he, rfl, _, h2, hv'.keep k2 fun i hi h he => hFb (by subst he; exact h)⟩, k1.trans k2⟩
    · skip
      have he : e = 0 := by simpa using hc5
      have hle : n ≤ (rest l).length := by
        rcases Nat.lt_or_ge (rest l).length n with h | h
        · rw [show decide (e = 0) = true from decide_eq_true he, show decide (((rest l).length : Int) < (n : Int)) = true from decide_eq_true (by omega)] at hc
          cases hc
        · exact h
      have hrl : (rest l).length ≤ l.length := by
        rcases hnx with ⟨_, hd, _⟩ | ⟨h, _⟩ | ⟨h, _⟩
        · have := rdNum_form hd; have h2 := congrArg List.length this; rw [List.length_append] at h2; omega
        · omega
        · omega
      refine wp_skip ?_
      refine n_then ?_
      refine c_seq ?_
      refine wp_reg (by decide +kernel) ?_
      refine l_v (v_move (t := .pointer _) rfl) ?_
      refine l_v (v_nilCheck rfl) ?_
      refine l_v (v_fieldAddr (off := 0) (ft := 22) (by kernel_rfl) rfl) ?_
      refine l_v (v_load (by kernel_rfl) rfl (hb1.pv 0 _ rfl)) ?_
      refine l_v (v_move (t := .int _ _) rfl) ?_
      refine l_to (to_slice (et := 5) (l := 0) (h := n) (by kernel_rfl) (by kernel_rfl) (show _ = (Value.slice _ _ _) from rfl) hv1 rfl ⟨_, by exact rfl⟩ (by first | omega | (simp; done) | (simp; omega)) (by first | omega | (simp; done) | (simp; omega)) ?_)
      rintro a2 n2 c2 h2s rfl hn2
      rw [List.drop_zero] at h2s
      have hn0 : n - 0 = ((rest l).take n).length := by simp; omega
      rw [hn0] at h2s ⊢
      refine l_to (to_append (et := 5) (bytes := 1) (by kernel_rfl) (show _ = (Value.slice _ _ _) from rfl) (OwV.nil _ nU8 _ w1.heap.size NoK) (show _ = (Value.slice _ _ _) from rfl) h2s (flat_u8.to) (by first | omega | (simp; done) | (simp; omega)) (by simp only [maxLen]; first | omega | (simp; done) | (simp; omega)) (by omega) ?_)
      rintro a3 n3 c3 w3 o3 hn3 k3 b3 i3
      have zs_k3 := k3.size
      subst hn3
      rw [List.nil_append] at o3 ⊢
      have e3 : Ext w1 w3 := k3.mono fun b _ h => by simp [Value.ownBlock] at h
      refine l_v (v_assign (t := .slice _ _ _) rfl) ?_
      refine l_nil ?_
      refine n_then ?_
      refine c_seq ?_
      refine wp_reg (by decide +kernel) ?_
      refine l_v (v_move (t := .pointer _) rfl) ?_
      refine l_v (v_move (t := .pointer _) rfl) ?_
      refine l_v (v_nilCheck rfl) ?_
      refine l_v (v_fieldAddr (off := 0) (ft := 22) (by kernel_rfl) rfl) ?_
      refine l_v (v_load (by kernel_rfl) rfl ((hb1.ext e3).pv 0 _ rfl)) ?_
      refine l_v (v_move (t := .int _ _) rfl) ?_
      refine l_to (to_slice (et := 5) (l := n) (h := (rest l).length) (by kernel_rfl) (by kernel_rfl) (show _ = (Value.slice _ _ _) from rfl) (hv1.ext e3) ⟨_, by exact rfl⟩ rfl (by first | omega | (simp; done) | (simp; omega)) (by first | omega | (simp; done) | (simp; omega)) ?_)
      rintro a4 n4 c4 h4s rfl hn4
      rw [List.take_length] at h4s
      refine l_v (v_nilCheck rfl) ?_
      refine l_v (v_fieldAddr (off := 0) (ft := 22) (by kernel_rfl) rfl) ?_
      refine l_to (to_store rfl rfl (show _ = (Value.slice _ _ _) from rfl) rfl (by kernel_rfl) (hb1.ext e3) (by simp) ?_)
      rintro w5 h5 k5 z5
      have zs_k5 := k5.size
      refine l_nil ?_
      refine n_then ?_
      refine c_seq ?_
      refine wp_reg (by decide +kernel) ?_
      refine l_v (v_move (t := .slice _ _ _) rfl) ?_
      refine l_v (v_assign (t := .slice _ _ _) rfl) ?_
      refine l_v (v_assign rfl) ?_
      refine l_nil ?_
      refine n_then ?_
      refine wp_ret ?_
      refine ret2 rfl (by decide) (by decide) ?_
      rw [hq, if_pos he, if_pos hle]
      have hrl2 : (rest l).length - n = ((rest l).drop n).length := by simp
      rw [hrl2] at h4s h5
      refine ⟨⟨a3, c3, rfl, ?_, _, h5, h4s.keep k5 fun i hi h he => hFb (by subst he; exact h)⟩, (k1.trans (e3.mono fun _ _ h => h.elim)).trans k5⟩
      have zs := k1.size
      exact ((o3.view.keep k5 (fun i hi h he => by rcases h with h | h; omega; exact h)).mono fun i _ h => by rcases h with h | h; omega; exact h.elim)
end Go.Proofs.Ythnpnniiejcnbaa
