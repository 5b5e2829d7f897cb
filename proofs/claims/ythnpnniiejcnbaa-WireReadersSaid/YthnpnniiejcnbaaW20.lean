/- A part of the proof: steps and lemmas for the walks through the given program. -/
import Derived.Test.YthnpnniiejcnbaaW19
import Derived.Test.YthnpnniiejcnbaaWPl4
namespace Go.Proofs.Ythnpnniiejcnbaa
open Go.Vc
set_option linter.unusedVariables false
set_option linter.unusedSimpArgs false
set_option maxRecDepth 100000

theorem at_getD {l : List UInt8} {k : Nat} (h : k < l.length) : l[k]? = some (l.getD k 0) := by simp [List.getD, h]
theorem whole_c {w : World} {v : Value} {F : Nat → Prop} {l : List UInt8} (hv : Bv w F v l) : CallsR Try.prog 62 #[v] w (fun r w' => r = .int .i64 (wholeN l : Nat) ∧ Ext w w') := by
  obtain ⟨a, c, rfl⟩ := hv.shape
  have hmx := hv.max
  simp only [maxLen] at hmx
  have hle := lead_le l
  obtain ⟨w0, rfl⟩ : ∃ x, x = w := ⟨w, rfl⟩
  cases a with
  | none =>
    have hl0 : l = [] := by
      cases l with
      | nil => rfl
      | cons x r => obtain ⟨a', c', he, _, _, _, h4⟩ := hv; obtain ⟨q, cs, ha, _⟩ := h4 0 x rfl; cases he; cases ha
    subst hl0
    refine enter 48 Try.func62 rfl rfl (by simp) ?_
    refine c_seq ?_
    refine wp_reg (by decide +kernel) ?_
    refine l_v (v_assign rfl) ?_
    refine l_nil ?_
    refine n_then ?_
    refine c_seq ?_
    refine wp_reg (by decide +kernel) ?_
    refine l_v (v_assign rfl) ?_
    refine l_nil ?_
    refine n_then ?_
    refine c_seq ?_
    refine wp_block ?_
    refine c_loop (τ := Nat) [3, 4, 5, 6, 7, 8, 9, 10, 11, 12, 13, 14, 15, 16] (fun k => [(3, .int .i64 k)]) (fun k w => w = w0 ∧ k = 0) (fun k => 0) 0 (by exact ⟨rfl, trivial⟩) (by exact ⟨rfl, rfl⟩) ?_
    rintro k w1 j ⟨rfl, rfl⟩
    refine c_seq ?_
    refine c_seq ?_
    refine wp_reg (by decide +kernel) ?_
    refine l_v (v_move (t := .int _ _) rfl) ?_
    refine l_v (v_move (t := .slice _ _ _) rfl) ?_
    refine l_v (v_len (et := 5) (by kernel_rfl) rfl) ?_
    refine l_v (OpVat.as (b := false) (v_lss rfl rfl) (by first | rfl | (simp; done) | (simp; omega))) ?_
    refine l_v (v_move (t := .bool _) rfl) ?_
    refine l_skip (u := .bool false) rfl rfl rfl ?_
    refine l_skip (u := .bool false) rfl rfl rfl ?_
    refine l_skip (u := .bool false) rfl rfl rfl ?_
    refine l_skip (u := .bool false) rfl rfl rfl ?_
    refine l_skip (u := .bool false) rfl rfl rfl ?_
    refine l_v (v_andC rfl) ?_
    refine l_nil ?_
    refine n_then ?_
    refine c_cond rfl rfl (fun hc => ?_) (fun hc => ?_)
    · skip
      cases hc
    · skip
      refine wp_exit ?_
      refine x_then ?_
      refine x_then ?_
      refine x_hit ?_
      refine n_then ?_
      refine c_seq ?_
      refine c_seq ?_
      refine wp_reg (by decide +kernel) ?_
      refine l_v (v_move (t := .int _ _) rfl) ?_
      refine l_v (v_move (t := .slice _ _ _) rfl) ?_
      refine l_v (v_len (et := 5) (by kernel_rfl) rfl) ?_
      refine l_v (OpVat.as (b := true) (v_eql rfl rfl) (by first | rfl | (simp; done) | (simp; omega))) ?_
      refine l_v (v_move (t := .bool _) rfl) ?_
      refine l_skip (u := .bool true) rfl rfl rfl ?_
      refine l_skip (u := .bool true) rfl rfl rfl ?_
      refine l_v (v_orC rfl) ?_
      refine l_v (v_move (t := .bool _) rfl) ?_
      refine l_skip (u := .bool true) rfl rfl rfl ?_
      refine l_skip (u := .bool true) rfl rfl rfl ?_
      refine l_skip (u := .bool true) rfl rfl rfl ?_
      refine l_skip (u := undef) rfl rfl rfl ?_
      refine l_skip (u := undef) rfl rfl rfl ?_
      refine l_skip (u := undef) rfl rfl rfl ?_
      refine l_skip (u := undef) rfl rfl rfl ?_
      refine l_skip (u := .bool true) rfl rfl rfl ?_
      refine l_v (v_orC rfl) ?_
      refine l_v (v_move (t := .bool _) rfl) ?_
      refine l_skip (u := .bool true) rfl rfl rfl ?_
      refine l_skip (u := .bool true) rfl rfl rfl ?_
      refine l_skip (u := .bool true) rfl rfl rfl ?_
      refine l_skip (u := undef) rfl rfl rfl ?_
      refine l_skip (u := undef) rfl rfl rfl ?_
      refine l_skip (u := undef) rfl rfl rfl ?_
      refine l_skip (u := undef) rfl rfl rfl ?_
      refine l_skip (u := undef) rfl rfl rfl ?_
      refine l_skip (u := .bool true) rfl rfl rfl ?_
      refine l_v (v_orC rfl) ?_
      refine l_nil ?_
      refine n_then ?_
      refine c_cond rfl rfl (fun hc2 => ?_) (fun hc2 => ?_)
      · skip
        refine c_seq ?_
        refine wp_reg (by decide +kernel) ?_
        refine l_v (v_assign rfl) ?_
        refine l_nil ?_
        refine n_then ?_
        refine wp_ret ?_
        refine r_then ?_
        refine ret1 rfl (by decide) ?_
        exact ⟨rfl, Keep.refl _⟩
      · skip
        cases hc2
  | some a =>
    refine enter 48 Try.func62 rfl rfl (by simp) ?_
    refine c_seq ?_
    refine wp_reg (by decide +kernel) ?_
    refine l_v (v_assign rfl) ?_
    refine l_nil ?_
    refine n_then ?_
    refine c_seq ?_
    refine wp_reg (by decide +kernel) ?_
    refine l_v (v_assign rfl) ?_
    refine l_nil ?_
    refine n_then ?_
    refine c_seq ?_
    refine wp_block ?_
    refine c_loop (τ := Nat) [3, 4, 5, 6, 7, 8, 9, 10, 11, 12, 13, 14, 15, 16] (fun k => [(3, .int .i64 k)]) (fun k w => w = w0 ∧ k ≤ lead l) (fun k => l.length - k) 0 (by exact ⟨rfl, trivial⟩) (by exact ⟨rfl, Nat.zero_le _⟩) ?_
    rintro k w1 j ⟨rfl, h1⟩
    refine c_seq ?_
    refine c_seq ?_
    refine wp_reg (by decide +kernel) ?_
    refine l_v (v_move (t := .int _ _) rfl) ?_
    refine l_v (v_move (t := .slice _ _ _) rfl) ?_
    refine l_v (v_len (et := 5) (by kernel_rfl) rfl) ?_
    refine l_v (v_lss rfl rfl) ?_
    refine l_v (v_move (t := .bool _) rfl) ?_
    refine l_g1 rfl rfl (fun hG => v_move (t := .slice _ _ _) rfl) ?_
    refine l_g1 rfl rfl (fun hG => v_move (t := .int _ _) rfl) ?_
    refine l_g1 rfl rfl (fun hG => v_indexAddr (et := 5) (sz := 1) (k := k) (by kernel_rfl) (by kernel_rfl) (gd hG rfl) (gd hG rfl) rfl (by have := hG; simp at this; omega)) ?_
    refine l_g1 rfl rfl (fun hG => v_load (by kernel_rfl) (gd hG rfl) (hv.at8 (k := k) (x := l.getD k 0) (at_getD (by have := hG; simp at this; omega)))) ?_
    refine l_g1 rfl rfl (fun hG => v_gtr (gd hG rfl) rfl) ?_
    refine l_v (v_and rfl rfl) ?_
    refine l_nil ?_
    refine n_then ?_
    refine c_cond rfl rfl (fun hc => ?_) (fun hc => ?_)
    · skip
      simp only [Bool.and_eq_true, decide_eq_true_eq] at hc
      refine wp_skip ?_
      refine n_then ?_
      refine wp_block ?_
      refine wp_reg (by decide +kernel) ?_
      refine l_v (v_move (t := .int _ _) rfl) ?_
      refine l_v (v_add rfl rfl (by first | exact wr_i64 (by omega) (by omega) | rfl)) ?_
      refine l_v (v_assign (t := .int _ _) rfl) ?_
      refine l_nil ?_
      refine n_blk ?_
      refine n_then ?_
      refine ⟨k + 1, _, rfl, by (repeat (first | exact Off.of_over _ _ _ | refine Off.upd ?_ (by decide) _)), ⟨by first | rfl | exact congrArg (Value.int _) (by omega) | (simp; done), trivial⟩, ?_, ?_⟩
      · refine ⟨rfl, ?_⟩
        rcases Nat.lt_or_ge k (lead l) with h | h
        · exact h
        · have hk : k = lead l := by omega
          have := lead_end l (l.getD k 0) (by rw [← hk]; exact at_getD (by omega))
          omega
      · dsimp only; omega
    · skip
      have hk : k = lead l := by
        rcases Nat.lt_or_ge k (lead l) with h | h
        · have h2 := lead_at l k (l.getD k 0) h (at_getD (by omega))
          have h3 : (decide ((k : Int) < (l.length : Int)) && decide ((127 : Int) < ((l.getD k 0).toNat : Int))) = true := by rw [Bool.and_eq_true]; exact ⟨decide_eq_true (by omega), decide_eq_true (by omega)⟩
          rw [h3] at hc; cases hc
        · omega
      clear hc
      subst hk
      refine wp_exit ?_
      refine x_then ?_
      refine x_then ?_
      refine x_hit ?_
      refine n_then ?_
      refine c_seq ?_
      refine c_seq ?_
      refine wp_reg (by decide +kernel) ?_
      refine l_v (v_move (t := .int _ _) rfl) ?_
      refine l_v (v_move (t := .slice _ _ _) rfl) ?_
      refine l_v (v_len (et := 5) (by kernel_rfl) rfl) ?_
      refine l_v (v_eql rfl rfl) ?_
      refine l_v (v_move (t := .bool _) rfl) ?_
      refine l_g1 rfl rfl (fun hG => v_move (t := .int _ _) rfl) ?_
      refine l_g1 rfl rfl (fun hG => v_gtr (gd hG rfl) rfl) ?_
      refine l_v (v_or rfl rfl) ?_
      refine l_v (v_move (t := .bool _) rfl) ?_
      refine l_g1 rfl rfl (fun hG => v_move (t := .int _ _) rfl) ?_
      refine l_g1 rfl rfl (fun hG => v_eql (gd hG rfl) rfl) ?_
      refine l_g1 rfl rfl (fun hG => v_move (t := .bool _) (gd hG rfl)) ?_
      refine l_g2 rfl rfl (fun hG => v_move (t := .slice _ _ _) rfl) ?_
      refine l_g2 rfl rfl (fun hG => v_indexAddr (et := 5) (sz := 1) (k := 9) (by kernel_rfl) (by kernel_rfl) (gd hG rfl) rfl rfl (by have := hG; simp at this; omega)) ?_
      refine l_g2 rfl rfl (fun hG => v_load (by kernel_rfl) (gd hG rfl) (hv.at8 (k := 9) (x := l.getD 9 0) (at_getD (by have := hG; simp at this; omega)))) ?_
      refine l_g2 rfl rfl (fun hG => v_gtr (gd hG rfl) rfl) ?_
      refine l_g1 rfl rfl (fun hG => v_and (gd hG rfl) (gda hG rfl)) ?_
      refine l_v (v_or rfl rfl) ?_
      refine l_v (v_move (t := .bool _) rfl) ?_
      refine l_g1 rfl rfl (fun hG => v_move (t := .int _ _) rfl) ?_
      refine l_g1 rfl rfl (fun hG => v_gtr (gd hG rfl) rfl) ?_
      refine l_g1 rfl rfl (fun hG => v_move (t := .bool _) (gd hG rfl)) ?_
      refine l_g2 rfl rfl (fun hG => v_move (t := .slice _ _ _) rfl) ?_
      refine l_g2 rfl rfl (fun hG => v_move (t := .int _ _) rfl) ?_
      refine l_g2 rfl rfl (fun hG => v_indexAddr (et := 5) (sz := 1) (k := lead l) (by kernel_rfl) (by kernel_rfl) (gd hG rfl) (gd hG rfl) rfl (by have := hG; simp at this; omega)) ?_
      refine l_g2 rfl rfl (fun hG => v_load (by kernel_rfl) (gd hG rfl) (hv.at8 (k := lead l) (x := l.getD (lead l) 0) (at_getD (by have := hG; simp at this; omega)))) ?_
      refine l_g2 rfl rfl (fun hG => v_eql (gd hG rfl) rfl) ?_
      refine l_g1 rfl rfl (fun hG => v_and (gd hG rfl) (gda hG rfl)) ?_
      refine l_v (v_or rfl rfl) ?_
      refine l_nil ?_
      refine n_then ?_
      refine c_cond rfl rfl (fun hc2 => ?_) (fun hc2 => ?_)
      · skip
        refine c_seq ?_
        refine wp_reg (by decide +kernel) ?_
        refine l_v (v_assign rfl) ?_
        refine l_nil ?_
        refine n_then ?_
        refine wp_ret ?_
        refine r_then ?_
        refine ret1 rfl (by decide) ?_
        refine ⟨?_, Keep.refl _⟩
        have hw : wholeN l = 0 := by
          rw [wholeN_lead, if_pos]
          simp only [Bool.or_eq_true, Bool.and_eq_true, decide_eq_true_eq] at hc2
          rcases hc2 with ((h | h) | h) | h
          · left; omega
          · right; left; omega
          · right; right; left; have h9 : lead l = 9 := by omega
            rw [h9]; exact ⟨rfl, by omega⟩
          · right; right; right; omega
        rw [hw]; rfl
      · skip
        have hlt : lead l < l.length := by
          rcases Nat.lt_or_ge (lead l) l.length with h | h
          · exact h
          · rw [show decide ((lead l : Int) = (l.length : Int)) = true from decide_eq_true (by omega)] at hc2
            cases hc2
        refine wp_skip ?_
        refine n_then ?_
        refine c_seq ?_
        refine wp_reg (by decide +kernel) ?_
        refine l_v (v_move (t := .int _ _) rfl) ?_
        refine l_v (v_add rfl rfl (by first | exact wr_i64 (by omega) (by omega) | rfl)) ?_
        refine l_v (v_assign (t := .int _ _) rfl) ?_
        refine l_nil ?_
        refine n_then ?_
        refine wp_ret ?_
        refine ret1 rfl (by decide) ?_
        refine ⟨?_, Keep.refl _⟩
        have hw : wholeN l = lead l + 1 := by
          rw [wholeN_lead, if_neg]
          intro hn
          have h3 : (decide ((lead l : Int) = (l.length : Int)) || decide ((9 : Int) < (lead l : Int)) || (decide ((lead l : Int) = 9) && decide ((1 : Int) < ((l.getD 9 0).toNat : Int))) || (decide ((0 : Int) < (lead l : Int)) && decide (((l.getD (lead l) 0).toNat : Int) = 0))) = true := by
            simp only [Bool.or_eq_true, Bool.and_eq_true, decide_eq_true_eq]
            rcases hn with h | h | h | h
            · left; left; left; omega
            · left; left; right; omega
            · left; right; have h9 := h.1; have h2 := h.2; rw [h9] at h2; exact ⟨by omega, by omega⟩
            · right; omega
          rw [h3] at hc2; cases hc2
        rw [hw]
        show Value.int _ ((lead l : Int) + 1) = _
        exact congrArg (Value.int _) (by omega)

abbrev nRf : Nat := 47
/-- the document's reader -/
def Rf (w : World) (b : Nat) (F : Nat → Prop) (l : List UInt8) : Prop := ∃ v, Blk w b [v] nRf ∧ Bv w F v l
theorem Rf.keep {w w' : World} {b : Nat} {F K : Nat → Prop} {l : List UInt8} (h : Rf w b F l) (k : Keep K w w') (h1 : ¬ K b) (h2 : ∀ b, F b → ¬ K b) : Rf w' b F l := by
  obtain ⟨v, hb, hv⟩ := h
  exact ⟨v, hb.keep k h1, hv.keep k (fun i _ hi => h2 i hi)⟩
theorem Rf.ext {w w' : World} {b : Nat} {F : Nat → Prop} {l : List UInt8} (h : Rf w b F l) (e : Ext w w') : Rf w' b F l := h.keep e (fun x => x) (fun _ _ x => x)
theorem refLeft_c {w : World} {b : Nat} {F : Nat → Prop} {l : List UInt8} (hr : Rf w b F l) : CallsR Try.prog 27 #[.pointer (some ⟨b, 0, none⟩)] w (fun r w' => r = .int .i64 l.length ∧ Ext w w') := by
  obtain ⟨v, hb, hv⟩ := hr
  obtain ⟨a, c, rfl⟩ := hv.shape
  refine enter 8 Try.func27 rfl rfl (by simp) ?_
  refine c_seq ?_
  refine wp_reg (by decide +kernel) ?_
  refine l_v (v_assign rfl) ?_
  refine l_nil ?_
  refine n_then ?_
  refine c_seq ?_
  refine wp_reg (by decide +kernel) ?_
  refine l_v (v_move (t := .pointer _) rfl) ?_
  refine l_v (v_nilCheck rfl) ?_
  refine l_v (v_fieldAddr (off := 0) (ft := 22) (by kernel_rfl) rfl) ?_
  refine l_v (v_load (by kernel_rfl) rfl (hb.pv 0 _ rfl)) ?_
  refine l_v (v_len (et := 5) (by kernel_rfl) rfl) ?_
  refine l_v (v_assign (t := .int _ _) rfl) ?_
  refine l_nil ?_
  refine n_then ?_
  refine wp_ret ?_
  refine ret1 rfl (by decide) ?_
  exact ⟨rfl, Keep.refl _⟩
theorem refRNumber_c {w : World} {b : Nat} {F : Nat → Prop} {l : List UInt8} (hr : Rf w b F l) (hF : ¬ F b) : CallsR Try.prog 47 #[.pointer (some ⟨b, 0, none⟩)] w (fun r w' => r = numV l ∧ Rf w' b F (rest l) ∧ Keep (fun k => k = b) w w') := by
  obtain ⟨v, hb, hv⟩ := hr
  obtain ⟨a, c, rfl⟩ := hv.shape
  have hwl := wholeN_le l
  have hnw := rdNum_whole (l := l)
  obtain ⟨w0, rfl⟩ : ∃ x, x = w := ⟨w, rfl⟩
  refine enter 42 Try.func47 rfl rfl (by simp) ?_
  refine c_seq ?_
  refine wp_reg (by decide +kernel) ?_
  refine l_v (v_assign rfl) ?_
  refine l_v (v_assign rfl) ?_
  refine l_nil ?_
  refine n_then ?_
  refine c_seq ?_
  refine wp_reg (by decide +kernel) ?_
  refine l_v (v_move (t := .pointer _) rfl) ?_
  refine l_v (v_nilCheck rfl) ?_
  refine l_v (v_fieldAddr (off := 0) (ft := 22) (by kernel_rfl) rfl) ?_
  refine l_v (v_load (by kernel_rfl) rfl (hb.pv 0 _ rfl)) ?_
  refine l_to (to_f1 (by kernel_rfl) (show _ = (Value.slice _ _ _) from rfl) (CallsR.mono (whole_c hv) ?_))
  rintro _ w1 ⟨rfl, e1⟩
  have zs_e1 := e1.size
  refine l_v (v_assign (t := .int _ _) rfl) ?_
  refine l_nil ?_
  refine n_then ?_
  refine c_seq ?_
  refine c_seq ?_
  refine wp_reg (by decide +kernel) ?_
  refine l_v (v_move (t := .int _ _) rfl) ?_
  refine l_v (v_eql rfl rfl) ?_
  refine l_nil ?_
  refine n_then ?_
  refine c_cond rfl rfl (fun hc => ?_) (fun hc => ?_)
  · skip
    have hz : wholeN l = 0 := by have := dtrue hc; omega
    rw [if_pos hz] at hnw
    refine c_seq ?_
    refine wp_reg (by decide +kernel) ?_
    refine l_v (v_assign rfl) ?_
    refine l_v (v_assign rfl) ?_
    refine l_nil ?_
    refine n_then ?_
    refine wp_ret ?_
    refine r_then ?_
    refine ret2 rfl (by decide) (by decide) ?_
    refine ⟨by rw [numV, hnw]; rfl, ?_, e1.keep⟩
    rw [rest, hnw]; exact ⟨_, hb.ext e1, hv.ext e1⟩
  · skip
    have hz : ¬ wholeN l = 0 := by have := dfalse hc; omega
    rw [if_neg hz] at hnw
    have hlt := rdNum_lt hnw
    refine wp_skip ?_
    refine n_then ?_
    refine c_seq ?_
    refine wp_reg (by decide +kernel) ?_
    refine l_v (v_assign rfl) ?_
    refine l_nil ?_
    refine n_then ?_
    refine c_seq ?_
    refine c_seq ?_
    refine wp_reg (by decide +kernel) ?_
    refine l_v (v_move (t := .int _ _) rfl) ?_
    refine l_v (v_sub rfl rfl (by first | exact wr_i64 (by omega) (by omega) | rfl)) ?_
    refine l_v (v_assign (t := .int _ _) rfl) ?_
    refine l_nil ?_
    refine n_then ?_
    refine wp_block ?_
    refine c_loop (τ := Nat) [5, 6, 16, 17, 18, 19, 20, 21, 22, 23, 24, 25, 26, 27, 28, 29, 30, 31] (fun k => [(5, .int .u64 (dig ((l.take (wholeN l)).drop k) : Nat)), (6, .int .i64 ((k : Int) - 1))]) (fun k w => w = w1 ∧ k ≤ wholeN l) (fun k => k) (wholeN l) (by exact ⟨congrArg (fun n : Nat => Value.int .u64 (n : Int)) (show 0 = dig _ by rw [List.drop_eq_nil_of_le (by simp; omega)]; rfl), rfl, trivial⟩) (by exact ⟨rfl, Nat.le_refl _⟩) ?_
    rintro k w2 j ⟨rfl, h2⟩
    refine c_seq ?_
    refine c_seq ?_
    refine wp_reg (by decide +kernel) ?_
    refine l_v (v_move (t := .int _ _) rfl) ?_
    refine l_v (v_geq rfl rfl) ?_
    refine l_nil ?_
    refine n_then ?_
    refine c_cond rfl rfl (fun hd => ?_) (fun hd => ?_)
    · skip
      have hd := dtrue hd
      obtain ⟨x, hx⟩ : ∃ x, l[k - 1]? = some x := ⟨l[k - 1]'(by omega), by simp [show k - 1 < l.length by omega]⟩
      have hdg := dig_take hx (show k - 1 < wholeN l by omega)
      have hdl := dig_drop_le (l.take (wholeN l)) (k - 1)
      rw [show k - 1 + 1 = k by omega] at hdg
      refine wp_skip ?_
      refine n_then ?_
      refine c_seq ?_
      refine wp_block ?_
      refine wp_reg (by decide +kernel) ?_
      refine l_v (v_move (t := .int _ _) rfl) ?_
      refine l_v (v_mul rfl rfl (by first | exact wr_u64 (by omega) (by omega) | rfl)) ?_
      refine l_v (v_move (t := .pointer _) rfl) ?_
      refine l_v (v_nilCheck rfl) ?_
      refine l_v (v_fieldAddr (off := 0) (ft := 22) (by kernel_rfl) rfl) ?_
      refine l_v (v_load (by kernel_rfl) rfl ((hb.ext e1).pv 0 _ rfl)) ?_
      refine l_v (v_move (t := .int _ _) rfl) ?_
      refine l_to (to_index (et := 5) (by kernel_rfl) (by kernel_rfl) (show _ = (Value.slice _ _ _) from rfl) (hv.ext e1) (show _ = (Value.int _ _) from rfl) (by omega) hx ?_)
      rintro q cs hFq hp hrep
      refine l_v (v_load (by kernel_rfl) rfl (pv_u8 hp hrep)) ?_
      refine l_v (v_rem rfl rfl (by decide) (by first | exact tm_nn (by omega) | rfl)) ?_
      refine l_v (v_conv (ds := .int .u8) (by kernel_rfl) (by kernel_rfl) rfl (by first | exact wr_u64 (by omega) (by omega) | rfl)) ?_
      refine l_v (v_add rfl rfl (by first | exact wr_u64 (by omega) (by omega) | rfl)) ?_
      refine l_v (v_assign (t := .int _ _) rfl) ?_
      refine l_nil ?_
      refine n_blk ?_
      refine n_then ?_
      refine wp_reg (by decide +kernel) ?_
      refine l_v (v_move (t := .int _ _) rfl) ?_
      refine l_v (v_sub rfl rfl (by first | exact wr_i64 (by omega) (by omega) | rfl)) ?_
      refine l_v (v_assign (t := .int _ _) rfl) ?_
      refine l_nil ?_
      refine n_then ?_
      refine ⟨k - 1, _, rfl, by (repeat (first | exact Off.of_over _ _ _ | refine Off.upd ?_ (by decide) _)), ⟨by first | rfl | exact congrArg (Value.int _) (by omega) | (simp; done), by first | rfl | exact congrArg (Value.int _) (by omega) | (simp; done), trivial⟩, ?_, ?_⟩
      · exact ⟨rfl, by omega⟩
      · dsimp only; omega
    · skip
      have hk0 : k = 0 := by have := dfalse hd; omega
      subst hk0
      refine wp_exit ?_
      refine x_then ?_
      refine x_then ?_
      refine x_hit ?_
      refine n_then ?_
      refine c_seq ?_
      refine wp_reg (by decide +kernel) ?_
      refine l_v (v_move (t := .pointer _) rfl) ?_
      refine l_v (v_move (t := .pointer _) rfl) ?_
      refine l_v (v_nilCheck rfl) ?_
      refine l_v (v_fieldAddr (off := 0) (ft := 22) (by kernel_rfl) rfl) ?_
      refine l_v (v_load (by kernel_rfl) rfl ((hb.ext e1).pv 0 _ rfl)) ?_
      refine l_v (v_move (t := .int _ _) rfl) ?_
      refine l_to (to_slice (et := 5) (l := wholeN l) (h := l.length) (by kernel_rfl) (by kernel_rfl) (show _ = (Value.slice _ _ _) from rfl) (hv.ext e1) ⟨_, by exact rfl⟩ rfl (by first | omega | (simp; done) | (simp; omega)) (by first | omega | (simp; done) | (simp; omega)) ?_)
      rintro a2 n2 c2 h2s rfl hn2
      rw [List.take_length] at h2s
      refine l_v (v_nilCheck rfl) ?_
      refine l_v (v_fieldAddr (off := 0) (ft := 22) (by kernel_rfl) rfl) ?_
      refine l_to (to_store rfl rfl (show _ = (Value.slice _ _ _) from rfl) rfl (by kernel_rfl) (hb.ext e1) (by simp) ?_)
      rintro w3 h3 k3 z3
      have zs_k3 := k3.size
      refine l_nil ?_
      refine n_then ?_
      refine c_seq ?_
      refine wp_reg (by decide +kernel) ?_
      refine l_v (v_move (t := .int _ _) rfl) ?_
      refine l_v (v_assign (t := .int _ _) rfl) ?_
      refine l_v (v_assign rfl) ?_
      refine l_nil ?_
      refine n_then ?_
      refine wp_ret ?_
      refine ret2 rfl (by decide) (by decide) ?_
      refine ⟨by rw [numV, hnw]; rfl, ?_, e1.keep.trans k3⟩
      have hrl : l.length - wholeN l = (l.drop (wholeN l)).length := by simp
      rw [hrl] at h2s h3
      rw [rest, hnw]
      exact ⟨_, h3, h2s.keep k3 fun b' _ hb' he => hF (by subst he; exact hb')⟩
end Go.Proofs.Ythnpnniiejcnbaa
