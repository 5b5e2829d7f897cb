/- A part of the proof: steps and lemmas for the walks through the given program. -/
import Derived.Test.YthnpnniiejcnbaaW23
namespace Go.Proofs.Ythnpnniiejcnbaa
open Go.Vc
set_option linter.unusedVariables false
set_option linter.unusedSimpArgs false
set_option maxRecDepth 100000

theorem tryNB_c {w : World} {b : Nat} {F : Nat → Prop} {l : List UInt8} {most : Int} {fv : Value} (hr : Rd nRd w b F l) (hm : most < 0) :
    CallsR Try.prog 55 #[.pointer (some ⟨b, 0, none⟩), .int .i64 most, fv] w (fun r w' => r = .tuple #[.slice none 0 0, .int .i64 2] ∧ Ext w w') := by
  obtain ⟨a, c, hb0, hv⟩ := hr
  refine enter 56 Try.func55 rfl rfl (by simp) ?_
  refine c_seq ?_
  refine wp_reg (by decide +kernel) ?_
  refine l_v (v_assign rfl) ?_
  refine l_v (v_assign rfl) ?_
  refine l_nil ?_
  refine n_then ?_
  refine c_seq ?_
  refine wp_reg (by decide +kernel) ?_
  refine l_v (v_assign rfl) ?_
  refine l_nil ?_
  refine n_then ?_
  refine c_seq ?_
  refine c_seq ?_
  refine wp_reg (by decide +kernel) ?_
  refine l_v (v_move (t := .pointer _) rfl) ?_
  refine l_to (to_f1 (by kernel_rfl) (show _ = (Value.pointer _) from rfl) (CallsR.mono (closed_c hb0) ?_))
  rintro _ w1 ⟨rfl, e1⟩
  have zs_e1 := e1.size
  refine l_nil ?_
  refine n_then ?_
  refine c_cond rfl rfl (fun hc => ?_) (fun hc => ?_)
  · skip
    cases hc
  · skip
    refine wp_skip ?_
    refine n_then ?_
    refine c_seq ?_
    refine c_seq ?_
    refine wp_reg (by decide +kernel) ?_
    refine l_v (v_move (t := .int _ _) rfl) ?_
    refine l_v (v_lss rfl rfl) ?_
    refine l_nil ?_
    refine n_then ?_
    refine c_cond rfl rfl (fun hc2 => ?_) (fun hc2 => ?_)
    · skip
      refine c_seq ?_
      refine wp_reg (by decide +kernel) ?_
      refine l_v (v_move (t := .slice _ _ _) rfl) ?_
      refine l_v (v_assign (t := .slice _ _ _) rfl) ?_
      refine l_v (v_assign rfl) ?_
      refine l_nil ?_
      refine n_then ?_
      refine wp_ret ?_
      refine r_then ?_
      refine ret2 rfl (by decide) (by decide) ?_
      exact ⟨rfl, e1⟩
    · skip
      have := dfalse hc2; omega
theorem BytesNeg_c {w : World} {b : Nat} {F : Nat → Prop} {l : List UInt8} {most : Int} (hr : Rd nRd w b F l) (hm : most < 0) :
    CallsR Try.prog 33 #[.pointer (some ⟨b, 0, none⟩), .int .i64 most] w (fun r w' => r = .tuple #[.slice none 0 0, .int .i64 2] ∧ Ext w w') := by
  refine enter 11 Try.func33 rfl rfl (by simp) ?_
  refine c_seq ?_
  refine wp_reg (by decide +kernel) ?_
  refine l_v (v_assign rfl) ?_
  refine l_v (v_assign rfl) ?_
  refine l_nil ?_
  refine n_then ?_
  refine c_seq ?_
  refine wp_reg (by decide +kernel) ?_
  refine l_v (v_move (t := .pointer _) rfl) ?_
  refine l_v (v_move (t := .int _ _) rfl) ?_
  refine l_to (to_f3 (by kernel_rfl) (show _ = (Value.pointer _) from rfl) (show _ = (Value.int _ _) from rfl) rfl (CallsR.mono (tryNB_c hr hm) ?_))
  rintro _ w1 ⟨rfl, e1⟩
  have zs_e1 := e1.size
  refine l_v (v_extract (t := .slice _ _ _) rfl rfl) ?_
  refine l_v (v_extract (t := .int _ _) rfl rfl) ?_
  refine l_v (v_assign (t := .slice _ _ _) rfl) ?_
  refine l_v (v_assign (t := .int _ _) rfl) ?_
  refine l_nil ?_
  refine n_then ?_
  refine wp_ret ?_
  refine ret2 rfl (by decide) (by decide) ?_
  exact ⟨rfl, e1⟩
theorem BytesA_c {w : World} {b : Nat} {F : Nat → Prop} {l : List UInt8} {most : Int} (hr : Rd nRd w b F l) (hF : ∀ k, F k → k < b) (hm2 : most ≤ 9223372036854775807) (hl : l.length ≤ 140737488355300) :
    CallsR Try.prog 33 #[.pointer (some ⟨b, 0, none⟩), .int .i64 most] w (fun r w' => TryV tU8 nU8 nRd w w' b F l (if most < 0 then .error 2 else rdBytes most.toNat l) r ∧ Keep (fun k => k = b) w w') := by
  by_cases hm : most < 0
  · rw [if_pos hm]
    exact CallsR.mono (BytesNeg_c hr hm) fun r w' ⟨h, e⟩ => ⟨⟨by decide, h, hr.ext e⟩, e.mono fun _ _ h => h.elim⟩
  · rw [if_neg hm]
    exact Bytes2_c hr hF (by omega) hm2 hl

def errL {α : Type} (l : List UInt8) : Except Int (α × List UInt8) → Int × List UInt8
  | .ok (_, r) => (0, r)
  | .error e => (e, l)
/-- what a reading tells, and what is left -/
def readQ (k m : Int) (l : List UInt8) : Int × List UInt8 :=
  if k = 1 then ((if rdNum l = none then 4 else 0), rest l) else if k = 2 then ((if rdNum l = none then 4 else 0), rest l) else if k = 3 then ((if rdFlag l = none then 4 else 0), restF l)
  else if k = 4 then errL l (if m < 0 then .error 2 else rdBytes m.toNat l) else if k = 5 then errL l (if m < 0 then .error 2 else tryRd (rdList rdU) m.toNat l) else (0, l)
theorem errL_any {α : Type} {l l2 : List UInt8} {e : Int} {xs : List α} {q : Except Int (List α × List UInt8)} (h : (e = 0 ∧ q = .ok (xs, l2)) ∨ (e ≠ 0 ∧ l2 = l ∧ q = .error e)) : errL l q = (e, l2) := by
  rcases h with ⟨he, hq⟩ | ⟨he, hl, hq⟩
  · rw [hq, he]; rfl
  · rw [hq, hl]; rfl
structure Two (w : World) (b1 b2 : Nat) (F1 F2 : Nat → Prop) (l : List UInt8) : Prop where
  r : Rd nRd w b1 F1 l
  f : Rf w b2 F2 l
  h1 : ∀ k, F1 k → k < b1
  h2 : ∀ k, F2 k → k < w.heap.size
  n1 : ¬ F2 b1
  n2 : ¬ F1 b2
  n3 : ¬ F2 b2
  ne : b1 ≠ b2

theorem read_c {w : World} {b1 b2 : Nat} {F1 F2 : Nat → Prop} {l : List UInt8} {k m : Int} (h : Two w b1 b2 F1 F2 l) (hm : m ≤ 9223372036854775807) (hl : l.length ≤ 9000) :
    CallsR Try.prog 28 #[.pointer (some ⟨b1, 0, none⟩), .pointer (some ⟨b2, 0, none⟩), .agg #[.int .i64 k, .int .i64 m]] w (fun r w' => r = .tuple #[.int .i64 (readQ k m l).1, .bool true] ∧ Two w' b1 b2 F1 F2 (readQ k m l).2 ∧ Keep (fun k => k = b1 ∨ k = b2) w w') := by
  obtain ⟨hr, hf, hF1, hF2, hn1, hn2, hn3, hne⟩ := h
  have hnF : ¬ F1 b1 := fun h => absurd (hF1 b1 h) (Nat.lt_irrefl b1)
  have hl1 : b1 < w.heap.size := by obtain ⟨_, _, h, _⟩ := hr; exact h.lt
  have hl2 : b2 < w.heap.size := by obtain ⟨_, h, _⟩ := hf; exact h.lt
  refine enter 172 Try.func28 rfl rfl (by simp) ?_
  refine c_seq ?_
  refine wp_reg (by decide +kernel) ?_
  refine l_to (to_box (show _ = (Value.agg _) from rfl) ?_)
  rintro b3 w1 rfl hb3 e1 z1
  have zs_e1 := e1.size
  have hr := hr.ext e1
  have hf := hf.ext e1
  refine l_v (v_assign rfl) ?_
  refine l_v (v_assign rfl) ?_
  refine l_nil ?_
  refine n_then ?_
  refine c_seq ?_
  refine c_seq ?_
  refine wp_reg (by decide +kernel) ?_
  refine l_v (v_fieldAddr (off := 0) (ft := 3) (by kernel_rfl) rfl) ?_
  refine l_v (v_load (by kernel_rfl) rfl (hb3.cell rfl)) ?_
  refine l_nil ?_
  refine n_then ?_
  refine wp_block ?_
  refine c_seq ?_
  refine wp_reg (by decide +kernel) ?_
  refine l_v (v_eql rfl rfl) ?_
  refine l_v (v_assign (t := .bool _) rfl) ?_
  refine l_nil ?_
  refine n_then ?_
  refine c_cond rfl rfl (fun hc => ?_) (fun hc => ?_)
  · skip
    have hk : k = 1 := by simpa using hc
    refine c_seq ?_
    refine wp_reg (by decide +kernel) ?_
    refine l_v (v_move (t := .pointer _) rfl) ?_
    refine l_to (to_f1 (by kernel_rfl) (show _ = (Value.pointer _) from rfl) (CallsR.mono (rNumber_c hr hnF) ?_))
    rintro r w2 ⟨hr2, s2, k2⟩
    have zs_k2 := k2.size
    obtain ⟨n, e, hn, hnl, hnx⟩ := numV_any l
    rw [hn] at hr2
    subst hr2
    have hf := hf.keep k2 (fun h => hne h.symm) (fun i hi h => hn1 (by subst h; exact hi))
    refine l_v (v_move (t := .tuple _) rfl) ?_
    refine l_v (v_extract (t := .int _ _) rfl rfl) ?_
    refine l_v (v_extract (t := .int _ _) rfl rfl) ?_
    refine l_v (v_assign (t := .int _ _) rfl) ?_
    refine l_v (v_assign (t := .int _ _) rfl) ?_
    refine l_nil ?_
    refine n_then ?_
    refine c_seq ?_
    refine wp_reg (by decide +kernel) ?_
    refine l_v (v_move (t := .pointer _) rfl) ?_
    refine l_to (to_f1 (by kernel_rfl) (show _ = (Value.pointer _) from rfl) (CallsR.mono (refRNumber_c hf hn3) ?_))
    rintro r w3 ⟨hr3, s3, k3⟩
    have zs_k3 := k3.size
    rw [hn] at hr3
    subst hr3
    have s2 := s2.keep k3 hne (fun i hi h => hn2 (by subst h; exact hi))
    refine l_v (v_move (t := .tuple _) rfl) ?_
    refine l_v (v_extract (t := .int _ _) rfl rfl) ?_
    refine l_v (v_extract (t := .int _ _) rfl rfl) ?_
    refine l_v (v_assign (t := .int _ _) rfl) ?_
    refine l_v (v_assign (t := .int _ _) rfl) ?_
    refine l_nil ?_
    refine n_then ?_
    refine c_seq ?_
    refine wp_reg (by decide +kernel) ?_
    refine l_v (v_move (t := .int _ _) rfl) ?_
    refine l_v (v_move (t := .int _ _) rfl) ?_
    refine l_v (v_move (t := .int _ _) rfl) ?_
    refine l_v (OpVat.as (b := true) (v_eql rfl rfl) (by first | rfl | (simp; done) | (simp; omega))) ?_
    refine l_v (v_move (t := .bool _) rfl) ?_
    refine l_gt rfl rfl (OpTo.of_v (v_move (t := .int _ _) rfl) ?_)
    refine l_gt rfl rfl (to_f1 (by kernel_rfl) (show _ = (Value.int _ _) from rfl) (CallsR.mono (num_c) ?_))
    rintro _ w4 ⟨rfl, e4⟩
    have zs_e4 := e4.size
    refine l_gt rfl rfl (OpTo.of_v (v_move (t := .int _ _) rfl) ?_)
    refine l_gt rfl rfl (OpTo.of_v (OpVat.as (b := true) (v_eql rfl rfl) (by first | rfl | (simp; done) | (simp; omega))) ?_)
    refine l_v (v_andT rfl rfl) ?_
    refine l_v (v_assign (t := .int _ _) rfl) ?_
    refine l_v (v_assign (t := .bool _) rfl) ?_
    refine l_nil ?_
    refine n_then ?_
    refine wp_ret ?_
    refine r_blk ?_
    refine r_then ?_
    refine ret2 rfl (by decide) (by decide) ?_
    have hq : readQ k m l = (e, rest l) := by
      rw [readQ, if_pos hk]
      rcases hnx with ⟨he, _, hd⟩ | ⟨he, _, _, hd⟩
      · rw [hd, he]; simp
      · rw [hd, he]; simp
    have kk : Keep (fun k => k = b1 ∨ k = b2) w w4 := (((e1.mono fun _ _ h => h.elim).trans (k2.mono fun _ _ h => .inl h)).trans (k3.mono fun _ _ h => .inr h)).trans (e4.mono fun _ _ h => h.elim)
    rw [hq]
    exact ⟨rfl, ⟨s2.ext e4, s3.ext e4, hF1, fun i hi => Nat.lt_of_lt_of_le (hF2 i hi) kk.size, hn1, hn2, hn3, hne⟩, kk⟩
  · skip
    have hk1 : ¬ k = 1 := by simpa using hc
    refine c_seq ?_
    refine wp_reg (by decide +kernel) ?_
    refine l_v (v_eql rfl rfl) ?_
    refine l_v (v_assign (t := .bool _) rfl) ?_
    refine l_nil ?_
    refine n_then ?_
    refine c_cond rfl rfl (fun hc2 => ?_) (fun hc2 => ?_)
    · skip
      have hk : k = 2 := by simpa using hc2
      refine c_seq ?_
      refine wp_reg (by decide +kernel) ?_
      refine l_v (v_move (t := .pointer _) rfl) ?_
      refine l_to (to_f1 (by kernel_rfl) (show _ = (Value.pointer _) from rfl) (CallsR.mono (rSigned_c hr hnF) ?_))
      rintro r w2 ⟨hr2, s2, k2⟩
      have zs_k2 := k2.size
      obtain ⟨n, e, hn, hnx⟩ := sgnV_any2 l
      rw [hn] at hr2
      subst hr2
      have hf := hf.keep k2 (fun h => hne h.symm) (fun i hi h => hn1 (by subst h; exact hi))
      refine l_v (v_move (t := .tuple _) rfl) ?_
      refine l_v (v_extract (t := .int _ _) rfl rfl) ?_
      refine l_v (v_extract (t := .int _ _) rfl rfl) ?_
      refine l_v (v_assign (t := .int _ _) rfl) ?_
      refine l_v (v_assign (t := .int _ _) rfl) ?_
      refine l_nil ?_
      refine n_then ?_
      refine c_seq ?_
      refine wp_reg (by decide +kernel) ?_
      refine l_v (v_move (t := .pointer _) rfl) ?_
      refine l_to (to_f1 (by kernel_rfl) (show _ = (Value.pointer _) from rfl) (CallsR.mono (refRSigned_c hf hn3) ?_))
      rintro r w3 ⟨hr3, s3, k3⟩
      have zs_k3 := k3.size
      rw [hn] at hr3
      subst hr3
      have s2 := s2.keep k3 hne (fun i hi h => hn2 (by subst h; exact hi))
      refine l_v (v_move (t := .tuple _) rfl) ?_
      refine l_v (v_extract (t := .int _ _) rfl rfl) ?_
      refine l_v (v_extract (t := .int _ _) rfl rfl) ?_
      refine l_v (v_assign (t := .int _ _) rfl) ?_
      refine l_v (v_assign (t := .int _ _) rfl) ?_
      refine l_nil ?_
      refine n_then ?_
      refine c_seq ?_
      refine wp_reg (by decide +kernel) ?_
      refine l_v (v_move (t := .int _ _) rfl) ?_
      refine l_v (v_move (t := .int _ _) rfl) ?_
      refine l_v (v_move (t := .int _ _) rfl) ?_
      refine l_v (OpVat.as (b := true) (v_eql rfl rfl) (by first | rfl | (simp; done) | (simp; omega))) ?_
      refine l_v (v_move (t := .bool _) rfl) ?_
      refine l_gt rfl rfl (OpTo.of_v (v_move (t := .int _ _) rfl) ?_)
      refine l_gt rfl rfl (to_f1 (by kernel_rfl) (show _ = (Value.int _ _) from rfl) (CallsR.mono (num_c) ?_))
      rintro _ w4 ⟨rfl, e4⟩
      have zs_e4 := e4.size
      refine l_gt rfl rfl (OpTo.of_v (v_move (t := .int _ _) rfl) ?_)
      refine l_gt rfl rfl (OpTo.of_v (OpVat.as (b := true) (v_eql rfl rfl) (by first | rfl | (simp; done) | (simp; omega))) ?_)
      refine l_v (v_andT rfl rfl) ?_
      refine l_v (v_assign (t := .int _ _) rfl) ?_
      refine l_v (v_assign (t := .bool _) rfl) ?_
      refine l_nil ?_
      refine n_then ?_
      refine wp_ret ?_
      refine r_blk ?_
      refine r_then ?_
      refine ret2 rfl (by decide) (by decide) ?_
      have hq : readQ k m l = (e, rest l) := by
        rw [readQ, if_neg hk1, if_pos hk]
        rcases hnx with ⟨he, _, hd, _⟩ | ⟨he, _, _, hd⟩
        · rw [hd, he]; simp
        · rw [hd, he]; simp
      have kk : Keep (fun k => k = b1 ∨ k = b2) w w4 := (((e1.mono fun _ _ h => h.elim).trans (k2.mono fun _ _ h => .inl h)).trans (k3.mono fun _ _ h => .inr h)).trans (e4.mono fun _ _ h => h.elim)
      rw [hq]
      exact ⟨rfl, ⟨s2.ext e4, s3.ext e4, hF1, fun i hi => Nat.lt_of_lt_of_le (hF2 i hi) kk.size, hn1, hn2, hn3, hne⟩, kk⟩
    · skip
      have hk2 : ¬ k = 2 := by simpa using hc2
      refine c_seq ?_
      refine wp_reg (by decide +kernel) ?_
      refine l_v (v_eql rfl rfl) ?_
      refine l_v (v_assign (t := .bool _) rfl) ?_
      refine l_nil ?_
      refine n_then ?_
      refine c_cond rfl rfl (fun hc3 => ?_) (fun hc3 => ?_)
      · skip
        have hk : k = 3 := by simpa using hc3
        refine c_seq ?_
        refine wp_reg (by decide +kernel) ?_
        refine l_v (v_move (t := .pointer _) rfl) ?_
        refine l_to (to_f1 (by kernel_rfl) (show _ = (Value.pointer _) from rfl) (CallsR.mono (rFlag_c hr hnF) ?_))
        rintro r w2 ⟨hr2, s2, k2⟩
        have zs_k2 := k2.size
        obtain ⟨n, e, hn, hnx⟩ := flagV_any l
        rw [hn] at hr2
        subst hr2
        have hf := hf.keep k2 (fun h => hne h.symm) (fun i hi h => hn1 (by subst h; exact hi))
        refine l_v (v_move (t := .tuple _) rfl) ?_
        refine l_v (v_extract (t := .bool _) rfl rfl) ?_
        refine l_v (v_extract (t := .int _ _) rfl rfl) ?_
        refine l_v (v_assign (t := .bool _) rfl) ?_
        refine l_v (v_assign (t := .int _ _) rfl) ?_
        refine l_nil ?_
        refine n_then ?_
        refine c_seq ?_
        refine wp_reg (by decide +kernel) ?_
        refine l_v (v_move (t := .pointer _) rfl) ?_
        refine l_to (to_f1 (by kernel_rfl) (show _ = (Value.pointer _) from rfl) (CallsR.mono (refRFlag_c hf hn3) ?_))
        rintro r w3 ⟨hr3, s3, k3⟩
        have zs_k3 := k3.size
        rw [hn] at hr3
        subst hr3
        have s2 := s2.keep k3 hne (fun i hi h => hn2 (by subst h; exact hi))
        refine l_v (v_move (t := .tuple _) rfl) ?_
        refine l_v (v_extract (t := .bool _) rfl rfl) ?_
        refine l_v (v_extract (t := .int _ _) rfl rfl) ?_
        refine l_v (v_assign (t := .bool _) rfl) ?_
        refine l_v (v_assign (t := .int _ _) rfl) ?_
        refine l_nil ?_
        refine n_then ?_
        refine c_seq ?_
        refine wp_reg (by decide +kernel) ?_
        refine l_v (v_move (t := .int _ _) rfl) ?_
        refine l_v (v_move (t := .bool _) rfl) ?_
        refine l_v (v_move (t := .bool _) rfl) ?_
        refine l_v (OpVat.as (b := true) (v_beql (by kernel_rfl) rfl rfl) (by first | rfl | (simp; done) | (simp; omega))) ?_
        refine l_v (v_move (t := .bool _) rfl) ?_
        refine l_gt rfl rfl (OpTo.of_v (v_move (t := .int _ _) rfl) ?_)
        refine l_gt rfl rfl (to_f1 (by kernel_rfl) (show _ = (Value.int _ _) from rfl) (CallsR.mono (num_c) ?_))
        rintro _ w4 ⟨rfl, e4⟩
        have zs_e4 := e4.size
        refine l_gt rfl rfl (OpTo.of_v (v_move (t := .int _ _) rfl) ?_)
        refine l_gt rfl rfl (OpTo.of_v (OpVat.as (b := true) (v_eql rfl rfl) (by first | rfl | (simp; done) | (simp; omega))) ?_)
        refine l_v (v_andT rfl rfl) ?_
        refine l_v (v_assign (t := .int _ _) rfl) ?_
        refine l_v (v_assign (t := .bool _) rfl) ?_
        refine l_nil ?_
        refine n_then ?_
        refine wp_ret ?_
        refine r_blk ?_
        refine r_then ?_
        refine ret2 rfl (by decide) (by decide) ?_
        have hq : readQ k m l = (e, restF l) := by
          rw [readQ, if_neg hk1, if_neg hk2, if_pos hk]
          rcases hnx with ⟨he, hd⟩ | ⟨he, _, hd⟩
          · rw [hd, he]; simp
          · rw [hd, he]; simp
        have kk : Keep (fun k => k = b1 ∨ k = b2) w w4 := (((e1.mono fun _ _ h => h.elim).trans (k2.mono fun _ _ h => .inl h)).trans (k3.mono fun _ _ h => .inr h)).trans (e4.mono fun _ _ h => h.elim)
        rw [hq]
        exact ⟨rfl, ⟨s2.ext e4, s3.ext e4, hF1, fun i hi => Nat.lt_of_lt_of_le (hF2 i hi) kk.size, hn1, hn2, hn3, hne⟩, kk⟩
      · skip
        have hk3 : ¬ k = 3 := by simpa using hc3
        refine c_seq ?_
        refine wp_reg (by decide +kernel) ?_
        refine l_v (v_eql rfl rfl) ?_
        refine l_v (v_assign (t := .bool _) rfl) ?_
        refine l_nil ?_
        refine n_then ?_
        refine c_cond rfl rfl (fun hc4 => ?_) (fun hc4 => ?_)
        · skip
          have hk : k = 4 := by simpa using hc4
          refine c_seq ?_
          refine wp_reg (by decide +kernel) ?_
          refine l_v (v_move (t := .pointer _) rfl) ?_
          refine l_v (v_fieldAddr (off := 1) (ft := 3) (by kernel_rfl) rfl) ?_
          refine l_v (v_load (by kernel_rfl) rfl (hb3.cell rfl)) ?_
          refine l_to (to_f2 (by kernel_rfl) (show _ = (Value.pointer _) from rfl) (show _ = (Value.int _ _) from rfl) (CallsR.mono (BytesA_c hr hF1 hm (by omega)) ?_))
          rintro r w2 ⟨hr2, k2⟩
          have zs_k2 := k2.size
          obtain ⟨a5, c5, e, x, l5, rfl, o5, s2, hx⟩ := TryV_any hr2
          have hf := hf.keep k2 (fun h => hne h.symm) (fun i hi h => hn1 (by subst h; exact hi))
          have hq : readQ k m l = (e, l5) := by rw [readQ, if_neg hk1, if_neg hk2, if_neg hk3, if_pos hk]; exact errL_any (hx.imp id fun h => ⟨h.1, h.2.2.1, h.2.2.2.2.2⟩)
          refine l_v (v_move (t := .tuple _) rfl) ?_
          refine l_v (v_extract (t := .slice _ _ _) rfl rfl) ?_
          refine l_v (v_extract (t := .int _ _) rfl rfl) ?_
          refine l_v (v_assign (t := .slice _ _ _) rfl) ?_
          refine l_v (v_assign (t := .int _ _) rfl) ?_
          refine l_nil ?_
          refine n_then ?_
          refine c_seq ?_
          refine c_seq ?_
          refine wp_reg (by decide +kernel) ?_
          refine l_v (v_fieldAddr (off := 1) (ft := 3) (by kernel_rfl) rfl) ?_
          refine l_v (v_load (by kernel_rfl) rfl ((hb3.keep k2 (by omega)).cell rfl)) ?_
          refine l_v (v_lss rfl rfl) ?_
          refine l_nil ?_
          refine n_then ?_
          refine c_cond rfl rfl (fun hc6 => ?_) (fun hc6 => ?_)
          · skip
            have hm0 : m < 0 := by simpa using hc6
            rw [if_pos hm0] at hx
            obtain ⟨_, hxe, hle, _, _, hqe⟩ := hx.resolve_left (fun h => by cases h.2)
            have he2 : e = 2 := by cases hqe; rfl
            subst hxe he2
            refine c_seq ?_
            refine wp_reg (by decide +kernel) ?_
            refine l_v (v_move (t := .slice _ _ _) rfl) ?_
            refine l_v (v_len (et := 5) (by kernel_rfl) rfl) ?_
            refine l_v (OpVat.as (b := true) (v_eql rfl rfl) (by first | rfl | (simp; done) | (simp; omega))) ?_
            refine l_v (v_move (t := .bool _) rfl) ?_
            refine l_gt rfl rfl (OpTo.of_v (v_move (t := .int _ _) rfl) ?_)
            refine l_gt rfl rfl (to_f1 (by kernel_rfl) (show _ = (Value.int _ _) from rfl) (CallsR.mono (num_c) ?_))
            rintro _ w4 ⟨rfl, e4⟩
            have zs_e4 := e4.size
            refine l_gt rfl rfl (OpTo.of_v (OpVat.as (b := true) (v_eql rfl rfl) (by first | rfl | (simp; done) | (simp; omega))) ?_)
            refine l_v (v_andT rfl rfl) ?_
            refine l_v (v_assign rfl) ?_
            refine l_v (v_assign (t := .bool _) rfl) ?_
            refine l_nil ?_
            refine n_then ?_
            refine wp_ret ?_
            refine r_then ?_
            refine r_blk ?_
            refine r_then ?_
            refine ret2 rfl (by decide) (by decide) ?_
            have kk : Keep (fun k => k = b1 ∨ k = b2) w w4 := ((e1.mono fun _ _ h => h.elim).trans (k2.mono fun _ _ h => .inl h)).trans (e4.mono fun _ _ h => h.elim)
            rw [hq]
            exact ⟨rfl, ⟨s2.ext e4, (by subst hle; exact hf.ext e4), hF1, fun i hi => Nat.lt_of_lt_of_le (hF2 i hi) kk.size, hn1, hn2, hn3, hne⟩, kk⟩
          · skip
            have hm0 : ¬ m < 0 := by simpa using hc6
            rw [if_neg hm0] at hx
            refine wp_skip ?_
            refine n_then ?_
            refine c_seq ?_
            refine wp_reg (by decide +kernel) ?_
            refine l_v (v_move (t := .pointer _) rfl) ?_
            refine l_v (v_fieldAddr (off := 1) (ft := 3) (by kernel_rfl) rfl) ?_
            refine l_v (v_load (by kernel_rfl) rfl ((hb3.keep k2 (by omega)).cell rfl)) ?_
            refine l_to (to_f2 (by kernel_rfl) (show _ = (Value.pointer _) from rfl) (show _ = (Value.int _ _) from rfl) (CallsR.mono (refRBytes_c hf (fun i hi => Nat.lt_of_lt_of_le (hF2 i hi) (Nat.le_trans e1.size k2.size)) hn3 (by omega) hm (by omega)) ?_))
            rintro r w3 ⟨hr3, k3⟩
            have zs_k3 := k3.size
            obtain ⟨a6, c6, e', x', l6, rfl, o6, s3, hx'⟩ := TryF_any hr3
            have hsame : e' = e ∧ x' = x ∧ l6 = l5 := by
              rcases hx with ⟨he, hq1⟩ | ⟨he, hx1, hl5, _, _, hq1⟩
              · rcases hx' with ⟨he', hq2⟩ | ⟨he', _, _, hq2⟩
                · rw [hq1] at hq2; cases hq2; exact ⟨by omega, rfl, rfl⟩
                · rw [hq1] at hq2; cases hq2
              · rcases hx' with ⟨he', hq2⟩ | ⟨he', hx2, hl6, hq2⟩
                · rw [hq1] at hq2; cases hq2
                · rw [hq1] at hq2; cases hq2; exact ⟨rfl, by rw [hx1, hx2], by rw [hl5, hl6]⟩
            obtain ⟨rfl, rfl, rfl⟩ := hsame
            have s2 := s2.keep k3 hne (fun i hi h => hn2 (by subst h; exact hi))
            refine l_v (v_move (t := .tuple _) rfl) ?_
            refine l_v (v_extract (t := .slice _ _ _) rfl rfl) ?_
            refine l_v (v_extract (t := .int _ _) rfl rfl) ?_
            refine l_v (v_assign (t := .slice _ _ _) rfl) ?_
            refine l_v (v_assign (t := .int _ _) rfl) ?_
            refine l_nil ?_
            refine n_then ?_
            refine c_seq ?_
            refine wp_reg (by decide +kernel) ?_
            refine l_v (v_move (t := .int _ _) rfl) ?_
            refine l_v (v_move (t := .slice _ _ _) rfl) ?_
            refine l_v (v_b2s (et := 5) (by kernel_rfl) (by kernel_rfl) (by kernel_rfl) rfl ((o5.keep k3 (fun i hi h => by have := (o5.own_lt hi).1; omega) (fun i _ hi _ h => by omega)).view)) ?_
            refine l_v (v_move (t := .slice _ _ _) rfl) ?_
            refine l_v (v_b2s (et := 5) (by kernel_rfl) (by kernel_rfl) (by kernel_rfl) rfl o6) ?_
            refine l_v (OpVat.as (b := true) (v_seq rfl rfl) (by first | rfl | (simp; done) | (simp; omega))) ?_
            refine l_v (v_move (t := .bool _) rfl) ?_
            refine l_gt rfl rfl (OpTo.of_v (v_move (t := .int _ _) rfl) ?_)
            refine l_gt rfl rfl (to_f1 (by kernel_rfl) (show _ = (Value.int _ _) from rfl) (CallsR.mono (num_c) ?_))
            rintro _ w4 ⟨rfl, e4⟩
            have zs_e4 := e4.size
            refine l_gt rfl rfl (OpTo.of_v (v_move (t := .int _ _) rfl) ?_)
            refine l_gt rfl rfl (OpTo.of_v (OpVat.as (b := true) (v_eql rfl rfl) (by first | rfl | (simp; done) | (simp; omega))) ?_)
            refine l_v (v_andT rfl rfl) ?_
            refine l_v (v_assign (t := .int _ _) rfl) ?_
            refine l_v (v_assign (t := .bool _) rfl) ?_
            refine l_nil ?_
            refine n_then ?_
            refine wp_ret ?_
            refine r_blk ?_
            refine r_then ?_
            refine ret2 rfl (by decide) (by decide) ?_
            have kk : Keep (fun k => k = b1 ∨ k = b2) w w4 := (((e1.mono fun _ _ h => h.elim).trans (k2.mono fun _ _ h => .inl h)).trans (k3.mono fun _ _ h => .inr h)).trans (e4.mono fun _ _ h => h.elim)
            rw [hq]
            exact ⟨rfl, ⟨s2.ext e4, s3.ext e4, hF1, fun i hi => Nat.lt_of_lt_of_le (hF2 i hi) kk.size, hn1, hn2, hn3, hne⟩, kk⟩
        · skip
          have hk4 : ¬ k = 4 := by simpa using hc4
          refine c_seq ?_
          refine wp_reg (by decide +kernel) ?_
          refine l_v (v_eql rfl rfl) ?_
          refine l_v (v_assign (t := .bool _) rfl) ?_
          refine l_nil ?_
          refine n_then ?_
          refine c_cond rfl rfl (fun hc5 => ?_) (fun hc5 => ?_)
          · skip
            have hk : k = 5 := by simpa using hc5
            refine c_seq ?_
            refine wp_reg (by decide +kernel) ?_
            refine l_v (v_move (t := .pointer _) rfl) ?_
            refine l_v (v_fieldAddr (off := 1) (ft := 3) (by kernel_rfl) rfl) ?_
            refine l_v (v_load (by kernel_rfl) rfl (hb3.cell rfl)) ?_
            refine l_to (to_f3 (by kernel_rfl) (show _ = (Value.pointer _) from rfl) (show _ = (Value.int _ _) from rfl) rfl (CallsR.mono (takeAU_c (cap := #[]) hr hF1 hm (by omega) (by kernel_rfl) rdU rdU_short (fun w1 c l1 e1 hc hr hl => oneU_c hr (fun h => by have := hF1 _ h; omega))) ?_))
            rintro r w2 ⟨hr2, k2⟩
            have zs_k2 := k2.size
            obtain ⟨a5, c5, e, x, l5, rfl, o5, s2, hx⟩ := TryV_any hr2
            have hf := hf.keep k2 (fun h => hne h.symm) (fun i hi h => hn1 (by subst h; exact hi))
            have hq : readQ k m l = (e, l5) := by rw [readQ, if_neg hk1, if_neg hk2, if_neg hk3, if_neg hk4, if_pos hk]; exact errL_any (hx.imp id fun h => ⟨h.1, h.2.2.1, h.2.2.2.2.2⟩)
            refine l_v (v_move (t := .tuple _) rfl) ?_
            refine l_v (v_extract (t := .slice _ _ _) rfl rfl) ?_
            refine l_v (v_extract (t := .int _ _) rfl rfl) ?_
            refine l_v (v_assign (t := .slice _ _ _) rfl) ?_
            refine l_v (v_assign (t := .int _ _) rfl) ?_
            refine l_nil ?_
            refine n_then ?_
            refine c_seq ?_
            refine c_seq ?_
            refine wp_reg (by decide +kernel) ?_
            refine l_v (v_fieldAddr (off := 1) (ft := 3) (by kernel_rfl) rfl) ?_
            refine l_v (v_load (by kernel_rfl) rfl ((hb3.keep k2 (by omega)).cell rfl)) ?_
            refine l_v (v_lss rfl rfl) ?_
            refine l_nil ?_
            refine n_then ?_
            refine c_cond rfl rfl (fun hc6 => ?_) (fun hc6 => ?_)
            · skip
              have hm0 : m < 0 := by simpa using hc6
              rw [if_pos hm0] at hx
              obtain ⟨_, hxe, hle, _, _, hqe⟩ := hx.resolve_left (fun h => by cases h.2)
              have he2 : e = 2 := by cases hqe; rfl
              subst hxe he2
              refine c_seq ?_
              refine wp_reg (by decide +kernel) ?_
              refine l_v (v_move (t := .slice _ _ _) rfl) ?_
              refine l_v (v_len (et := 29) (by kernel_rfl) rfl) ?_
              refine l_v (OpVat.as (b := true) (v_eql rfl rfl) (by first | rfl | (simp; done) | (simp; omega))) ?_
              refine l_v (v_move (t := .bool _) rfl) ?_
              refine l_gt rfl rfl (OpTo.of_v (v_move (t := .int _ _) rfl) ?_)
              refine l_gt rfl rfl (to_f1 (by kernel_rfl) (show _ = (Value.int _ _) from rfl) (CallsR.mono (num_c) ?_))
              rintro _ w4 ⟨rfl, e4⟩
              have zs_e4 := e4.size
              refine l_gt rfl rfl (OpTo.of_v (OpVat.as (b := true) (v_eql rfl rfl) (by first | rfl | (simp; done) | (simp; omega))) ?_)
              refine l_v (v_andT rfl rfl) ?_
              refine l_v (v_assign rfl) ?_
              refine l_v (v_assign (t := .bool _) rfl) ?_
              refine l_nil ?_
              refine n_then ?_
              refine wp_ret ?_
              refine r_then ?_
              refine r_blk ?_
              refine r_then ?_
              refine ret2 rfl (by decide) (by decide) ?_
              have kk : Keep (fun k => k = b1 ∨ k = b2) w w4 := ((e1.mono fun _ _ h => h.elim).trans (k2.mono fun _ _ h => .inl h)).trans (e4.mono fun _ _ h => h.elim)
              rw [hq]
              exact ⟨rfl, ⟨s2.ext e4, (by subst hle; exact hf.ext e4), hF1, fun i hi => Nat.lt_of_lt_of_le (hF2 i hi) kk.size, hn1, hn2, hn3, hne⟩, kk⟩
            · skip
              have hm0 : ¬ m < 0 := by simpa using hc6
              rw [if_neg hm0] at hx
              refine wp_skip ?_
              refine n_then ?_
              refine c_seq ?_
              refine wp_reg (by decide +kernel) ?_
              refine l_v (v_move (t := .pointer _) rfl) ?_
              refine l_v (v_fieldAddr (off := 1) (ft := 3) (by kernel_rfl) rfl) ?_
              refine l_v (v_load (by kernel_rfl) rfl ((hb3.keep k2 (by omega)).cell rfl)) ?_
              refine l_to (to_f2 (by kernel_rfl) (show _ = (Value.pointer _) from rfl) (show _ = (Value.int _ _) from rfl) (CallsR.mono (refRNumbers_c hf (fun i hi => Nat.lt_of_lt_of_le (hF2 i hi) (Nat.le_trans e1.size k2.size)) hn3 (by omega) hm (by omega)) ?_))
              rintro r w3 ⟨hr3, k3⟩
              have zs_k3 := k3.size
              obtain ⟨a6, c6, e', x', l6, rfl, o6, s3, hx'⟩ := TryF_any hr3
              have hsame : e' = e ∧ x' = x ∧ l6 = l5 := by
                rcases hx with ⟨he, hq1⟩ | ⟨he, hx1, hl5, _, _, hq1⟩
                · rcases hx' with ⟨he', hq2⟩ | ⟨he', _, _, hq2⟩
                  · rw [hq1] at hq2; cases hq2; exact ⟨by omega, rfl, rfl⟩
                  · rw [hq1] at hq2; cases hq2
                · rcases hx' with ⟨he', hq2⟩ | ⟨he', hx2, hl6, hq2⟩
                  · rw [hq1] at hq2; cases hq2
                  · rw [hq1] at hq2; cases hq2; exact ⟨rfl, by rw [hx1, hx2], by rw [hl5, hl6]⟩
              obtain ⟨rfl, rfl, rfl⟩ := hsame
              have s2 := s2.keep k3 hne (fun i hi h => hn2 (by subst h; exact hi))
              refine l_v (v_move (t := .tuple _) rfl) ?_
              refine l_v (v_extract (t := .slice _ _ _) rfl rfl) ?_
              refine l_v (v_extract (t := .int _ _) rfl rfl) ?_
              refine l_v (v_assign (t := .slice _ _ _) rfl) ?_
              refine l_v (v_assign (t := .int _ _) rfl) ?_
              refine l_nil ?_
              refine n_then ?_
              refine c_seq ?_
              refine wp_reg (by decide +kernel) ?_
              refine l_v (v_move (t := .int _ _) rfl) ?_
              refine l_v (v_move (t := .slice _ _ _) rfl) ?_
              refine l_v (v_move (t := .slice _ _ _) rfl) ?_
              refine l_to (to_f2 (by kernel_rfl) (show _ = (Value.slice _ _ _) from rfl) (show _ = (Value.slice _ _ _) from rfl) (CallsR.mono (numbers_c ((o5.keep k3 (fun i hi h => by have := (o5.own_lt hi).1; omega) (fun i _ hi _ h => by omega)).view) o6) ?_))
              rintro _ w5 ⟨hr5, e5⟩
              have zs_e5 := e5.size
              rw [decide_eq_true rfl] at hr5
              subst hr5
              refine l_v (v_move (t := .bool _) rfl) ?_
              refine l_gt rfl rfl (OpTo.of_v (v_move (t := .int _ _) rfl) ?_)
              refine l_gt rfl rfl (to_f1 (by kernel_rfl) (show _ = (Value.int _ _) from rfl) (CallsR.mono (num_c) ?_))
              rintro _ w4 ⟨rfl, e4⟩
              have zs_e4 := e4.size
              refine l_gt rfl rfl (OpTo.of_v (v_move (t := .int _ _) rfl) ?_)
              refine l_gt rfl rfl (OpTo.of_v (OpVat.as (b := true) (v_eql rfl rfl) (by first | rfl | (simp; done) | (simp; omega))) ?_)
              refine l_v (v_andT rfl rfl) ?_
              refine l_v (v_assign (t := .int _ _) rfl) ?_
              refine l_v (v_assign (t := .bool _) rfl) ?_
              refine l_nil ?_
              refine n_then ?_
              refine wp_ret ?_
              refine r_blk ?_
              refine r_then ?_
              refine ret2 rfl (by decide) (by decide) ?_
              have kk : Keep (fun k => k = b1 ∨ k = b2) w w4 := ((((e1.mono fun _ _ h => h.elim).trans (k2.mono fun _ _ h => .inl h)).trans (k3.mono fun _ _ h => .inr h)).trans (e5.mono fun _ _ h => h.elim)).trans (e4.mono fun _ _ h => h.elim)
              rw [hq]
              exact ⟨rfl, ⟨(s2.ext e5).ext e4, (s3.ext e5).ext e4, hF1, fun i hi => Nat.lt_of_lt_of_le (hF2 i hi) kk.size, hn1, hn2, hn3, hne⟩, kk⟩
          · skip
            have hk5 : ¬ k = 5 := by simpa using hc5
            refine wp_skip ?_
            refine n_blk ?_
            refine n_then ?_
            refine c_seq ?_
            refine wp_reg (by decide +kernel) ?_
            refine l_v (v_assign rfl) ?_
            refine l_v (v_assign rfl) ?_
            refine l_nil ?_
            refine n_then ?_
            refine wp_ret ?_
            refine ret2 rfl (by decide) (by decide) ?_
            have hq : readQ k m l = (0, l) := by rw [readQ, if_neg hk1, if_neg hk2, if_neg hk3, if_neg hk4, if_neg hk5]
            have kk : Keep (fun k => k = b1 ∨ k = b2) w w1 := e1.mono fun _ _ h => h.elim
            rw [hq]
            exact ⟨rfl, ⟨hr, hf, hF1, fun i hi => Nat.lt_of_lt_of_le (hF2 i hi) kk.size, hn1, hn2, hn3, hne⟩, kk⟩
end Go.Proofs.Ythnpnniiejcnbaa
