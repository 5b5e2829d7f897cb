/- A part of the proof: steps and lemmas for the walks through the given program. -/
import Derived.Test.YthnpnniiejcnbaaW20
import Derived.Test.YthnpnniiejcnbaaVc17
namespace Go.Proofs.Ythnpnniiejcnbaa
open Go.Vc
set_option linter.unusedVariables false
set_option linter.unusedSimpArgs false
set_option maxRecDepth 100000

theorem refRSigned_c {w : World} {b : Nat} {F : Nat → Prop} {l : List UInt8} (hr : Rf w b F l) (hF : ¬ F b) : CallsR Try.prog 48 #[.pointer (some ⟨b, 0, none⟩)] w (fun r w' => r = sgnV l ∧ Rf w' b F (rest l) ∧ Keep (fun k => k = b) w w') := by
  obtain ⟨n, e, hn, hnl, hnx⟩ := numV_any l
  have hs : sgnV l = .tuple #[.int .i64 (unzig n), .int .i64 e] := by
    rw [sgnV]
    rcases hnx with ⟨he, _, hd⟩ | ⟨he, hn0, _, hd⟩
    · rw [hd, he]
    · rw [hd, he, hn0]; rfl
  refine enter 23 Try.func48 rfl rfl (by simp) ?_
  refine c_seq ?_
  refine wp_reg (by decide +kernel) ?_
  refine l_v (v_assign rfl) ?_
  refine l_v (v_assign rfl) ?_
  refine l_nil ?_
  refine n_then ?_
  refine c_seq ?_
  refine wp_reg (by decide +kernel) ?_
  refine l_v (v_move (t := .pointer _) rfl) ?_
  refine l_to (to_f1 (by kernel_rfl) (show _ = (Value.pointer _) from rfl) (CallsR.mono (refRNumber_c hr hF) ?_))
  rintro r w1 ⟨hr1, r1, k1⟩
  have zs_k1 := k1.size
  rw [hn] at hr1
  subst hr1
  refine l_v (v_move (t := .tuple _) rfl) ?_
  refine l_v (v_extract (t := .int _ _) rfl rfl) ?_
  refine l_v (v_extract (t := .int _ _) rfl rfl) ?_
  refine l_v (v_assign (t := .int _ _) rfl) ?_
  refine l_v (v_assign (t := .int _ _) rfl) ?_
  refine l_nil ?_
  refine n_then ?_
  refine c_seq ?_
  refine c_seq ?_
  refine wp_reg (by decide +kernel) ?_
  refine l_v (v_move (t := .int _ _) rfl) ?_
  refine l_v (v_rem rfl rfl (by decide) (by first | exact tm_nn (by omega) | rfl)) ?_
  refine l_v (v_eql rfl rfl) ?_
  refine l_nil ?_
  refine n_then ?_
  refine c_cond rfl rfl (fun hc => ?_) (fun hc => ?_)
  · skip
    refine c_seq ?_
    refine wp_reg (by decide +kernel) ?_
    refine l_v (v_move (t := .int _ _) rfl) ?_
    refine l_v (v_quo rfl rfl (by decide) (by first | exact qu_u64 (by omega) (by omega) (by decide) | rfl)) ?_
    refine l_v (v_conv (ds := .int .u64) (by kernel_rfl) (by kernel_rfl) rfl (by first | exact wr_i64 (by omega) (by omega) | rfl)) ?_
    refine l_v (v_move (t := .int _ _) rfl) ?_
    refine l_v (v_assign (t := .int _ _) rfl) ?_
    refine l_v (v_assign (t := .int _ _) rfl) ?_
    refine l_nil ?_
    refine n_then ?_
    refine wp_ret ?_
    refine r_then ?_
    refine ret2 rfl (by decide) (by decide) ?_
    refine ⟨?_, r1, k1⟩
    rw [hs, unzig, if_neg (by have := dtrue hc; omega)]
    show Value.tuple #[Value.int .i64 _, _] = Value.tuple #[_, _]
    congr 4
  · skip
    refine wp_skip ?_
    refine n_then ?_
    refine c_seq ?_
    refine wp_reg (by decide +kernel) ?_
    refine l_v (v_move (t := .int _ _) rfl) ?_
    refine l_v (v_quo rfl rfl (by decide) (by first | exact qu_u64 (by omega) (by omega) (by decide) | rfl)) ?_
    refine l_v (v_conv (ds := .int .u64) (by kernel_rfl) (by kernel_rfl) rfl (by first | exact wr_i64 (by omega) (by omega) | rfl)) ?_
    refine l_v (v_sub rfl rfl (by first | exact wr_i64 (by omega) (by omega) | rfl)) ?_
    refine l_v (v_move (t := .int _ _) rfl) ?_
    refine l_v (v_assign (t := .int _ _) rfl) ?_
    refine l_v (v_assign (t := .int _ _) rfl) ?_
    refine l_nil ?_
    refine n_then ?_
    refine wp_ret ?_
    refine ret2 rfl (by decide) (by decide) ?_
    refine ⟨?_, r1, k1⟩
    rw [hs, unzig, if_pos (by have := dfalse hc; omega)]
    show Value.tuple #[Value.int .i64 _, _] = Value.tuple #[_, _]
    congr 4
    omega

theorem refRFlag_c {w : World} {b : Nat} {F : Nat → Prop} {l : List UInt8} (hr : Rf w b F l) (hF : ¬ F b) : CallsR Try.prog 49 #[.pointer (some ⟨b, 0, none⟩)] w (fun r w' => r = flagV l ∧ Rf w' b F (restF l) ∧ Keep (fun k => k = b) w w') := by
  obtain ⟨v, hb, hv⟩ := hr
  obtain ⟨a, c, rfl⟩ := hv.shape
  cases l with
  | nil =>
    refine enter 36 Try.func49 rfl rfl (by simp) ?_
    refine c_seq ?_
    refine wp_reg (by decide +kernel) ?_
    refine l_v (v_assign rfl) ?_
    refine l_v (v_assign rfl) ?_
    refine l_nil ?_
    refine n_then ?_
    refine c_seq ?_
    refine c_seq ?_
    refine wp_reg (by decide +kernel) ?_
    refine l_v (v_move (t := .pointer _) rfl) ?_
    refine l_v (v_nilCheck rfl) ?_
    refine l_v (v_fieldAddr (off := 0) (ft := 22) (by kernel_rfl) rfl) ?_
    refine l_v (v_load (by kernel_rfl) rfl (hb.pv 0 _ rfl)) ?_
    refine l_v (v_len (et := 5) (by kernel_rfl) rfl) ?_
    refine l_v (OpVat.as (b := true) (v_eql rfl rfl) (by first | rfl | (simp; done) | (simp; omega))) ?_
    refine l_v (v_move (t := .bool _) rfl) ?_
    refine l_skip (u := .bool true) rfl rfl rfl ?_
    refine l_skip (u := .bool true) rfl rfl rfl ?_
    refine l_skip (u := .bool true) rfl rfl rfl ?_
    refine l_skip (u := .bool true) rfl rfl rfl ?_
    refine l_skip (u := .bool true) rfl rfl rfl ?_
    refine l_skip (u := .bool true) rfl rfl rfl ?_
    refine l_skip (u := .bool true) rfl rfl rfl ?_
    refine l_v (v_orC rfl) ?_
    refine l_nil ?_
    refine n_then ?_
    refine c_cond rfl rfl (fun hc => ?_) (fun hc => ?_)
    · skip
      refine c_seq ?_
      refine wp_reg (by decide +kernel) ?_
      refine l_v (v_assign rfl) ?_
      refine l_v (v_assign rfl) ?_
      refine l_nil ?_
      refine n_then ?_
      refine wp_ret ?_
      refine r_then ?_
      refine ret2 rfl (by decide) (by decide) ?_
      exact ⟨rfl, ⟨_, hb, hv⟩, Keep.refl _⟩
    · skip
      cases hc
  | cons x l =>
    obtain ⟨q, cs, rfl, _, hp, hrep⟩ := SlV_at hv (k := 0) (x := x) rfl
    by_cases hx : 1 < x.toNat
    · have hd : rdFlag (x :: l) = none := by rw [rdFlag, if_pos hx]
      refine enter 36 Try.func49 rfl rfl (by simp) ?_
      refine c_seq ?_
      refine wp_reg (by decide +kernel) ?_
      refine l_v (v_assign rfl) ?_
      refine l_v (v_assign rfl) ?_
      refine l_nil ?_
      refine n_then ?_
      refine c_seq ?_
      refine c_seq ?_
      refine wp_reg (by decide +kernel) ?_
      refine l_v (v_move (t := .pointer _) rfl) ?_
      refine l_v (v_nilCheck rfl) ?_
      refine l_v (v_fieldAddr (off := 0) (ft := 22) (by kernel_rfl) rfl) ?_
      refine l_v (v_load (by kernel_rfl) rfl (hb.pv 0 _ rfl)) ?_
      refine l_v (v_len (et := 5) (by kernel_rfl) rfl) ?_
      refine l_v (OpVat.as (b := false) (v_eql rfl rfl) (by first | rfl | (simp; done) | (simp; omega))) ?_
      refine l_v (v_move (t := .bool _) rfl) ?_
      refine l_gt rfl rfl (OpTo.of_v (v_move (t := .pointer _) rfl) ?_)
      refine l_gt rfl rfl (OpTo.of_v (v_nilCheck rfl) ?_)
      refine l_gt rfl rfl (OpTo.of_v (v_fieldAddr (off := 0) (ft := 22) (by kernel_rfl) rfl) ?_)
      refine l_gt rfl rfl (OpTo.of_v (v_load (by kernel_rfl) rfl (hb.pv 0 _ rfl)) ?_)
      refine l_gt rfl rfl (OpTo.of_v (v_indexAddr (et := 5) (sz := 1) (k := 0) (by kernel_rfl) (by kernel_rfl) rfl rfl rfl (by simp)) ?_)
      refine l_gt rfl rfl (OpTo.of_v (v_load (by kernel_rfl) rfl (pv_u8 hp hrep)) ?_)
      refine l_gt rfl rfl (OpTo.of_v (OpVat.as (b := true) (v_gtr rfl rfl) (decide_eq_true (by omega))) ?_)
      refine l_v (v_orT rfl rfl) ?_
      refine l_nil ?_
      refine n_then ?_
      refine c_cond rfl rfl (fun hc => ?_) (fun hc => ?_)
      · skip
        refine c_seq ?_
        refine wp_reg (by decide +kernel) ?_
        refine l_v (v_assign rfl) ?_
        refine l_v (v_assign rfl) ?_
        refine l_nil ?_
        refine n_then ?_
        refine wp_ret ?_
        refine r_then ?_
        refine ret2 rfl (by decide) (by decide) ?_
        exact ⟨by rw [flagV, hd]; rfl, by rw [restF, hd]; exact ⟨_, hb, hv⟩, Keep.refl _⟩
      · skip
        cases hc
    · have hd : rdFlag (x :: l) = some (decide (0 < x.toNat), l) := by rw [rdFlag, if_neg hx]
      refine enter 36 Try.func49 rfl rfl (by simp) ?_
      refine c_seq ?_
      refine wp_reg (by decide +kernel) ?_
      refine l_v (v_assign rfl) ?_
      refine l_v (v_assign rfl) ?_
      refine l_nil ?_
      refine n_then ?_
      refine c_seq ?_
      refine c_seq ?_
      refine wp_reg (by decide +kernel) ?_
      refine l_v (v_move (t := .pointer _) rfl) ?_
      refine l_v (v_nilCheck rfl) ?_
      refine l_v (v_fieldAddr (off := 0) (ft := 22) (by kernel_rfl) rfl) ?_
      refine l_v (v_load (by kernel_rfl) rfl (hb.pv 0 _ rfl)) ?_
      refine l_v (v_len (et := 5) (by kernel_rfl) rfl) ?_
      refine l_v (OpVat.as (b := false) (v_eql rfl rfl) (by first | rfl | (simp; done) | (simp; omega))) ?_
      refine l_v (v_move (t := .bool _) rfl) ?_
      refine l_gt rfl rfl (OpTo.of_v (v_move (t := .pointer _) rfl) ?_)
      refine l_gt rfl rfl (OpTo.of_v (v_nilCheck rfl) ?_)
      refine l_gt rfl rfl (OpTo.of_v (v_fieldAddr (off := 0) (ft := 22) (by kernel_rfl) rfl) ?_)
      refine l_gt rfl rfl (OpTo.of_v (v_load (by kernel_rfl) rfl (hb.pv 0 _ rfl)) ?_)
      refine l_gt rfl rfl (OpTo.of_v (v_indexAddr (et := 5) (sz := 1) (k := 0) (by kernel_rfl) (by kernel_rfl) rfl rfl rfl (by simp)) ?_)
      refine l_gt rfl rfl (OpTo.of_v (v_load (by kernel_rfl) rfl (pv_u8 hp hrep)) ?_)
      refine l_gt rfl rfl (OpTo.of_v (OpVat.as (b := false) (v_gtr rfl rfl) (decide_eq_false (by omega))) ?_)
      refine l_v (v_orT rfl rfl) ?_
      refine l_nil ?_
      refine n_then ?_
      refine c_cond rfl rfl (fun hc => ?_) (fun hc => ?_)
      · skip
        cases hc
      · skip
        refine wp_skip ?_
        refine n_then ?_
        refine c_seq ?_
        refine wp_reg (by decide +kernel) ?_
        refine l_v (v_move (t := .pointer _) rfl) ?_
        refine l_v (v_nilCheck rfl) ?_
        refine l_v (v_fieldAddr (off := 0) (ft := 22) (by kernel_rfl) rfl) ?_
        refine l_v (v_load (by kernel_rfl) rfl (hb.pv 0 _ rfl)) ?_
        refine l_to (to_index (et := 5) (by kernel_rfl) (by kernel_rfl) (show _ = (Value.slice _ _ _) from rfl) hv (show _ = (Value.int _ _) from rfl) rfl (show (x :: l)[0]? = some x from rfl) ?_)
        rintro q2 cs2 hFq hp2 hrep2
        refine l_v (v_load (by kernel_rfl) rfl (pv_u8 hp2 hrep2)) ?_
        refine l_v (v_eql rfl rfl) ?_
        refine l_v (v_assign (t := .bool _) rfl) ?_
        refine l_nil ?_
        refine n_then ?_
        refine c_seq ?_
        refine wp_reg (by decide +kernel) ?_
        refine l_v (v_move (t := .pointer _) rfl) ?_
        refine l_v (v_move (t := .pointer _) rfl) ?_
        refine l_v (v_nilCheck rfl) ?_
        refine l_v (v_fieldAddr (off := 0) (ft := 22) (by kernel_rfl) rfl) ?_
        refine l_v (v_load (by kernel_rfl) rfl (hb.pv 0 _ rfl)) ?_
        refine l_to (to_slice (et := 5) (l := 1) (h := (x :: l).length) (by kernel_rfl) (by kernel_rfl) (show _ = (Value.slice _ _ _) from rfl) hv ⟨_, by exact rfl⟩ rfl (by first | omega | (simp; done) | (simp; omega)) (by first | omega | (simp; done) | (simp; omega)) ?_)
        rintro a2 n2 c2 h2s rfl hn2
        rw [List.take_length] at h2s
        refine l_v (v_nilCheck rfl) ?_
        refine l_v (v_fieldAddr (off := 0) (ft := 22) (by kernel_rfl) rfl) ?_
        refine l_to (to_store rfl rfl (show _ = (Value.slice _ _ _) from rfl) rfl (by kernel_rfl) hb (by simp) ?_)
        rintro w3 h3 k3 z3
        have zs_k3 := k3.size
        refine l_nil ?_
        refine n_then ?_
        refine c_seq ?_
        refine wp_reg (by decide +kernel) ?_
        refine l_v (v_move (t := .bool _) rfl) ?_
        refine l_v (v_assign (t := .bool _) rfl) ?_
        refine l_v (v_assign rfl) ?_
        refine l_nil ?_
        refine n_then ?_
        refine wp_ret ?_
        refine ret2 rfl (by decide) (by decide) ?_
        refine ⟨?_, ?_, k3⟩
        · rw [flagV, hd]
          have : decide ((x.toNat : Int) = 1) = decide (0 < x.toNat) := by rw [decide_eq_decide]; omega
          show Value.tuple #[Value.bool (decide ((x.toNat : Int) = 1)), _] = _
          rw [this]; rfl
        · rw [restF, hd]
          exact ⟨_, h3, h2s.keep k3 fun b' _ hb' he => hF (by subst he; exact hb')⟩

/-- a number, at most so great -/
theorem many_c {w : World} {b : Nat} {F : Nat → Prop} {l : List UInt8} {most : Int} (hr : Rf w b F l) (hF : ¬ F b) (hm : 0 ≤ most) (hm2 : most ≤ 9223372036854775807) : CallsR Try.prog 63 #[.pointer (some ⟨b, 0, none⟩), .int .i64 most] w (fun r w' => (∃ (n : Nat) (e : Int), r = .tuple #[.int .u64 n, .int .i64 e] ∧ n < 18446744073709551616 ∧ ((e = 0 ∧ rdNum l = some (n, rest l) ∧ n ≤ most.toNat) ∨ (e = 3 ∧ n = 0 ∧ ∃ m, rdNum l = some (m, rest l) ∧ ¬ m ≤ most.toNat) ∨ (e = 4 ∧ n = 0 ∧ rdNum l = none))) ∧ Rf w' b F (rest l) ∧ Keep (fun k => k = b) w w') := by
  obtain ⟨n, e, hn, hnl, hnx⟩ := numV_any l
  refine enter 23 Try.func63 rfl rfl (by simp) ?_
  refine c_seq ?_
  refine wp_reg (by decide +kernel) ?_
  refine l_v (v_assign rfl) ?_
  refine l_v (v_assign rfl) ?_
  refine l_nil ?_
  refine n_then ?_
  refine c_seq ?_
  refine wp_reg (by decide +kernel) ?_
  refine l_v (v_move (t := .pointer _) rfl) ?_
  refine l_to (to_f1 (by kernel_rfl) (show _ = (Value.pointer _) from rfl) (CallsR.mono (refRNumber_c hr hF) ?_))
  rintro r w1 ⟨hr1, r1, k1⟩
  have zs_k1 := k1.size
  rw [hn] at hr1
  subst hr1
  refine l_v (v_move (t := .tuple _) rfl) ?_
  refine l_v (v_extract (t := .int _ _) rfl rfl) ?_
  refine l_v (v_extract (t := .int _ _) rfl rfl) ?_
  refine l_v (v_assign (t := .int _ _) rfl) ?_
  refine l_v (v_assign (t := .int _ _) rfl) ?_
  refine l_nil ?_
  refine n_then ?_
  refine c_seq ?_
  refine c_seq ?_
  refine wp_reg (by decide +kernel) ?_
  refine l_v (v_move (t := .int _ _) rfl) ?_
  refine l_v (v_eql rfl rfl) ?_
  refine l_v (v_move (t := .bool _) rfl) ?_
  refine l_g1 rfl rfl (fun hG => v_move (t := .int _ _) rfl) ?_
  refine l_g1 rfl rfl (fun hG => v_move (t := .int _ _) rfl) ?_
  refine l_g1 rfl rfl (fun hG => v_conv (ds := .int .i64) (by kernel_rfl) (by kernel_rfl) (gd hG rfl) (by first | exact wr_u64 (by omega) (by omega) | rfl)) ?_
  refine l_g1 rfl rfl (fun hG => v_gtr (gd hG rfl) (gd hG rfl)) ?_
  refine l_v (v_and rfl rfl) ?_
  refine l_nil ?_
  refine n_then ?_
  refine c_cond rfl rfl (fun hc => ?_) (fun hc => ?_)
  · skip
    refine c_seq ?_
    refine wp_reg (by decide +kernel) ?_
    refine l_v (v_assign rfl) ?_
    refine l_v (v_assign rfl) ?_
    refine l_nil ?_
    refine n_then ?_
    refine wp_ret ?_
    refine r_then ?_
    refine ret2 rfl (by decide) (by decide) ?_
    simp only [Bool.and_eq_true, decide_eq_true_eq] at hc
    refine ⟨⟨0, 3, rfl, by omega, .inr (.inl ⟨rfl, rfl, n, ?_, by omega⟩)⟩, r1, k1⟩
    rcases hnx with ⟨_, _, hd⟩ | ⟨he, _⟩
    · exact hd
    · omega
  · skip
    refine wp_skip ?_
    refine n_then ?_
    refine c_seq ?_
    refine wp_reg (by decide +kernel) ?_
    refine l_v (v_move (t := .int _ _) rfl) ?_
    refine l_v (v_move (t := .int _ _) rfl) ?_
    refine l_v (v_assign (t := .int _ _) rfl) ?_
    refine l_v (v_assign (t := .int _ _) rfl) ?_
    refine l_nil ?_
    refine n_then ?_
    refine wp_ret ?_
    refine ret2 rfl (by decide) (by decide) ?_
    refine ⟨⟨n, e, rfl, hnl, ?_⟩, r1, k1⟩
    rcases hnx with ⟨he, _, hd⟩ | ⟨he, hn0, _, hd⟩
    · refine .inl ⟨he, hd, ?_⟩
      rcases Nat.lt_or_ge most.toNat n with h | h
      · rw [show decide (e = 0) = true from decide_eq_true he, show decide (most < (n : Int)) = true from decide_eq_true (by omega)] at hc
        cases hc
      · exact h
    · exact .inr (.inr ⟨he, hn0, hd⟩)
end Go.Proofs.Ythnpnniiejcnbaa
