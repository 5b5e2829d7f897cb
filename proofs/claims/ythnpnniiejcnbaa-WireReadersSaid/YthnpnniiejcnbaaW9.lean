/- A part of the proof: steps and lemmas for the walks through the given program. -/
import Derived.Test.YthnpnniiejcnbaaW8
import Derived.Test.YthnpnniiejcnbaaVc12
namespace Go.Proofs.Ythnpnniiejcnbaa
open Go.Vc
set_option linter.unusedVariables false
set_option maxRecDepth 100000

theorem wNum_mono : ∀ (n m : Nat), n ≤ m → (wNum n).length ≤ (wNum m).length := by
  intro n
  induction n using Nat.strongRecOn with
  | _ n ih =>
    intro m hm
    by_cases hn : n < 128
    · rw [wNum_lt hn]; exact wNum_pos m
    · rw [wNum_ge (n := n) (by omega), wNum_ge (n := m) (by omega)]
      simp only [List.length_cons]
      have := ih (n / 128) (by omega) (m / 128) (Nat.div_le_div_right hm)
      omega
theorem wNum_pre {n m : Nat} (hn : n < 18446744073709551616) (hm : m < 18446744073709551616) (h : (wNum m).take (wNum n).length = wNum n) : n = m := by
  have h1 := rdNum_wNum hn ((wNum m).drop (wNum n).length)
  have h2 := rdNum_wNum hm []
  have h3 : wNum n ++ (wNum m).drop (wNum n).length = wNum m := by
    conv => lhs; rw [← h]
    have : ((wNum m).take (wNum n).length).length = (wNum n).length := by rw [h]
    rw [this]; exact List.take_append_drop _ _
  rw [h3] at h1
  rw [List.append_nil] at h2
  rw [h1] at h2
  simp at h2
  exact h2.1
theorem reps_bytes2 {w : World} {F : Nat → Prop} {v0 v1 : Value} {x0 x1 : List UInt8} (h0 : Bv w F v0 x0) (h1 : Bv w F v1 x1) : ∀ i x, [x0, x1][i]? = some x → (tSl tU8).rep w F (([v0, v1].drop (i * (tSl tU8).sz)).take (tSl tU8).sz) x := by
  intro i x hx
  match i with
  | 0 => simp at hx; subst hx; exact ⟨_, rfl, h0⟩
  | 1 => simp at hx; subst hx; exact ⟨_, rfl, h1⟩
  | i + 2 => simp at hx

theorem WireNumbers_c {w : World} {n m : Nat} {v : Value} {F : Nat → Prop} {l : List UInt8} (hn : n < 18446744073709551616) (hm : m < 18446744073709551616) (hv : Bv w F v l) : CallsR Try.prog 4 #[.int .u64 n, .int .u64 m, v] w (fun r w' => r = .bool true ∧ Ext w w') := by
  have hln := wNum_len10 hn
  have hlm := wNum_len10 hm
  obtain ⟨a, c, rfl⟩ := hv.shape
  refine enter 98 Try.func4 rfl rfl (by simp) ?_
  refine c_seq ?_
  refine wp_reg (by decide +kernel) ?_
  refine l_v (v_assign rfl) ?_
  refine l_nil ?_
  refine n_then ?_
  refine c_seq ?_
  refine c_seq ?_
  refine wp_reg (by decide +kernel) ?_
  refine l_v (v_move (t := .slice _ _ _) rfl) ?_
  refine l_v (v_len (et := 5) (by kernel_rfl) rfl) ?_
  refine l_v (v_gtr rfl rfl) ?_
  refine l_nil ?_
  refine n_then ?_
  refine c_cond rfl rfl (fun hc => ?_) (fun hc => ?_)
  · skip
    refine c_seq ?_
    refine wp_reg (by decide +kernel) ?_
    refine l_to (to_f0 (by kernel_rfl) (CallsR.mono (known_c) ?_))
    rintro _ w1 ⟨rfl, e1⟩
    have zs_e1 := e1.size
    refine l_v (v_assign (t := .bool _) rfl) ?_
    refine l_nil ?_
    refine n_then ?_
    refine wp_ret ?_
    refine r_then ?_
    refine ret1 rfl (by decide) ?_
    exact ⟨rfl, e1⟩
  · skip
    have hl : l.length ≤ 300 := by have := dfalse hc; omega
    refine wp_skip ?_
    refine n_then ?_
    refine c_seq ?_
    refine wp_reg (by decide +kernel) ?_
    refine l_v (v_move (t := .int _ _) rfl) ?_
    refine l_to (to_f1 (by kernel_rfl) (show _ = (Value.int _ _) from rfl) (CallsR.mono (Number_c hn) ?_))
    rintro _ w1 ⟨o1, ⟨q1, c1, rfl⟩, e1⟩
    have zs_e1 := e1.size
    refine l_v (v_move (t := .int _ _) rfl) ?_
    refine l_to (to_f1 (by kernel_rfl) (show _ = (Value.int _ _) from rfl) (CallsR.mono (Number_c hm) ?_))
    rintro _ w2 ⟨o2, ⟨q2, c2, rfl⟩, e2⟩
    have zs_e2 := e2.size
    refine l_v (v_assign (t := .slice _ _ _) rfl) ?_
    refine l_v (v_assign (t := .slice _ _ _) rfl) ?_
    refine l_nil ?_
    refine n_then ?_
    refine c_seq ?_
    refine c_seq ?_
    refine wp_regd (NoK) (by kernel_rfl) (by decide +kernel) (by decide +kernel) ?_
    refine rt_v (fun vals w hR hd => v_move (t := .slice _ _ _) rfl) ?_
    refine rt_v (fun vals w hR hd => v_b2s (et := 5) (by kernel_rfl) (by kernel_rfl) (by kernel_rfl) (hd 0 rfl) ((o1.ext (e2.trans hR)).view)) ?_
    refine rt_v (fun vals w hR hd => v_move (t := .int _ _) rfl) ?_
    refine rt_to (fun v w => Bv w AllB v (wNum n)) (fun v w w' h k => h.ext k) (fun vals w hR hd => to_f1 (by kernel_rfl) (show _ = (Value.int _ _) from (hd 2 rfl)) (CallsR.mono (refNumber_c rfl hn) fun v w' h => ⟨h.2.2, h.1.view.allB⟩)) ?_
    refine rt_v (fun vals w hR hd => v_b2s (et := 5) (by kernel_rfl) (by kernel_rfl) (by kernel_rfl) rfl (hd 3 rfl)) ?_
    refine rt_v (fun vals w hR hd => v_sne (hd 1 rfl) (hd 4 rfl)) ?_
    refine rt_v (fun vals w hR hd => v_move (t := .bool _) (hd 5 rfl)) ?_
    refine rt_g1 rfl (fun vals w hd => hd 6 rfl) (fun vals w hR hd hG => v_move (t := .slice _ _ _) rfl) ?_
    refine rt_g1 rfl (fun vals w hd => hd 6 rfl) (fun vals w hR hd hG => v_b2s (et := 5) (by kernel_rfl) (by kernel_rfl) (by kernel_rfl) (gd hG (hd 7 rfl)) ((o2.ext hR).view)) ?_
    refine rt_g1 rfl (fun vals w hd => hd 6 rfl) (fun vals w hR hd hG => v_move (t := .int _ _) rfl) ?_
    refine rt_gto (fun v w => Bv w AllB v (wNum m)) (fun v w w' h k => h.ext k) (fun vals w hd => wanted1 rfl (hd 6 rfl)) (fun vals w hR hd hG => to_f1 (by kernel_rfl) (show _ = (Value.int _ _) from (gd hG (hd 9 rfl))) (CallsR.mono (refNumber_c rfl hm) fun v w' h => ⟨h.2.2, h.1.view.allB⟩)) ?_
    refine rt_g1 rfl (fun vals w hd => hd 6 rfl) (fun vals w hR hd hG => v_b2s (et := 5) (by kernel_rfl) (by kernel_rfl) (by kernel_rfl) rfl ((hd 10 rfl).1 hG)) ?_
    refine rt_g1 rfl (fun vals w hd => hd 6 rfl) (fun vals w hR hd hG => v_sne (gd hG (hd 8 rfl)) (gd hG (hd 11 rfl))) ?_
    refine rt_v (fun vals w hR hd => v_or (hd 6 rfl) (hd 12 rfl)) ?_
    refine rt_v (fun vals w hR hd => v_move (t := .bool _) (hd 13 rfl)) ?_
    refine rt_g1 rfl (fun vals w hd => hd 14 rfl) (fun vals w hR hd hG => v_move (t := .int _ _) rfl) ?_
    refine rt_g1 rfl (fun vals w hd => hd 14 rfl) (fun vals w hR hd hG => v_move (t := .int _ _) rfl) ?_
    refine rt_g1 rfl (fun vals w hd => hd 14 rfl) (fun vals w hR hd hG => v_lss (gd hG (hd 15 rfl)) (gd hG (hd 16 rfl))) ?_
    refine rt_g1 rfl (fun vals w hd => hd 14 rfl) (fun vals w hR hd hG => v_move (t := .bool _) (gd hG (hd 17 rfl))) ?_
    refine rt_g2 rfl (fun vals w hd => hd 18 rfl) (fun vals w hR hd hG => v_move (t := .slice _ _ _) rfl) ?_
    refine rt_g2 rfl (fun vals w hd => hd 18 rfl) (fun vals w hR hd hG => v_len (et := 5) (by kernel_rfl) (gd hG (hd 19 rfl))) ?_
    refine rt_g2 rfl (fun vals w hd => hd 18 rfl) (fun vals w hR hd hG => v_move (t := .slice _ _ _) rfl) ?_
    refine rt_g2 rfl (fun vals w hd => hd 18 rfl) (fun vals w hR hd hG => v_len (et := 5) (by kernel_rfl) (gd hG (hd 21 rfl))) ?_
    refine rt_g2 rfl (fun vals w hd => hd 18 rfl) (fun vals w hR hd hG => v_gtr (gd hG (hd 20 rfl)) (gd hG (hd 22 rfl))) ?_
    refine rt_g1 rfl (fun vals w hd => hd 14 rfl) (fun vals w hR hd hG => v_and (gd hG (hd 18 rfl)) (gda hG (hd 23 rfl))) ?_
    refine rt_v (fun vals w hR hd => v_or (hd 14 rfl) (hd 24 rfl)) ?_
    refine rt_v (fun vals w hR hd => v_move (t := .bool _) (hd 25 rfl)) ?_
    refine rt_g1 rfl (fun vals w hd => hd 26 rfl) (fun vals w hR hd hG => v_move (t := .int _ _) rfl) ?_
    refine rt_g1 rfl (fun vals w hd => hd 26 rfl) (fun vals w hR hd hG => v_move (t := .int _ _) rfl) ?_
    refine rt_g1 rfl (fun vals w hd => hd 26 rfl) (fun vals w hR hd hG => v_neq (gd hG (hd 27 rfl)) (gd hG (hd 28 rfl))) ?_
    refine rt_g1 rfl (fun vals w hd => hd 26 rfl) (fun vals w hR hd hG => v_move (t := .bool _) (gd hG (hd 29 rfl))) ?_
    refine rt_g2 rfl (fun vals w hd => hd 30 rfl) (fun vals w hR hd hG => v_move (t := .slice _ _ _) rfl) ?_
    refine rt_g2 rfl (fun vals w hd => hd 30 rfl) (fun vals w hR hd hG => v_len (et := 5) (by kernel_rfl) (gd hG (hd 31 rfl))) ?_
    refine rt_g2 rfl (fun vals w hd => hd 30 rfl) (fun vals w hR hd hG => v_move (t := .slice _ _ _) rfl) ?_
    refine rt_g2 rfl (fun vals w hd => hd 30 rfl) (fun vals w hR hd hG => v_len (et := 5) (by kernel_rfl) (gd hG (hd 33 rfl))) ?_
    refine rt_g2 rfl (fun vals w hd => hd 30 rfl) (fun vals w hR hd hG => v_leq (gd hG (hd 32 rfl)) (gd hG (hd 34 rfl))) ?_
    refine rt_g1 rfl (fun vals w hd => hd 26 rfl) (fun vals w hR hd hG => v_and (gd hG (hd 30 rfl)) (gda hG (hd 35 rfl))) ?_
    refine rt_g1 rfl (fun vals w hd => hd 26 rfl) (fun vals w hR hd hG => v_move (t := .bool _) (gd hG (hd 36 rfl))) ?_
    refine rt_g2 rfl (fun vals w hd => hd 37 rfl) (fun vals w hR hd hG => v_move (t := .slice _ _ _) rfl) ?_
    refine rt_g2 rfl (fun vals w hd => hd 37 rfl) (fun vals w hR hd hG => v_move (t := .slice _ _ _) rfl) ?_
    refine rt_g2 rfl (fun vals w hd => hd 37 rfl) (fun vals w hR hd hG => v_len (et := 5) (by kernel_rfl) (gd hG (hd 39 rfl))) ?_
    refine rt_gto (fun v w => Bv w AllB v ((wNum m).take (wNum n).length)) (fun v w w' h k => h.ext k) (fun vals w hd => wanted2 rfl (hd 37 rfl)) (fun vals w hR hd hG => to_slice (et := nU8) (l := 0) (h := (wNum n).length) (by kernel_rfl) (by kernel_rfl) (show _ = (Value.slice _ _ _) from (gd hG (hd 38 rfl))) (o2.ext hR).view rfl ⟨_, by exact (gd hG (hd 40 rfl))⟩ (Nat.zero_le _) (by have := hG; simp at this; omega) (fun a n c h _ _ => ⟨Keep.refl _, by simpa using h.allB⟩)) ?_
    refine rt_g2 rfl (fun vals w hd => hd 37 rfl) (fun vals w hR hd hG => v_b2s (et := 5) (by kernel_rfl) (by kernel_rfl) (by kernel_rfl) rfl ((hd 41 rfl).1 hG)) ?_
    refine rt_g2 rfl (fun vals w hd => hd 37 rfl) (fun vals w hR hd hG => v_move (t := .slice _ _ _) rfl) ?_
    refine rt_g2 rfl (fun vals w hd => hd 37 rfl) (fun vals w hR hd hG => v_b2s (et := 5) (by kernel_rfl) (by kernel_rfl) (by kernel_rfl) (gd hG (hd 43 rfl)) ((o1.ext (e2.trans hR)).view)) ?_
    refine rt_g2 rfl (fun vals w hd => hd 37 rfl) (fun vals w hR hd hG => v_seq (gd hG (hd 42 rfl)) (gd hG (hd 44 rfl))) ?_
    refine rt_g1 rfl (fun vals w hd => hd 26 rfl) (fun vals w hR hd hG => v_and (gd hG (hd 37 rfl)) (gda hG (hd 45 rfl))) ?_
    refine rt_v (fun vals w hR hd => v_or (hd 26 rfl) (hd 46 rfl)) ?_
    refine rt_nil (fun w4 e4 => ?_)
    rintro _ rfl _ rfl _ rfl v3 h3 _ rfl _ rfl _ rfl _ rfl _ rfl _ rfl v10 h10 _ rfl _ rfl _ rfl _ rfl _ rfl _ rfl _ rfl _ rfl _ rfl _ rfl _ rfl _ rfl _ rfl _ rfl _ rfl _ rfl _ rfl _ rfl _ rfl _ rfl _ rfl _ rfl _ rfl _ rfl _ rfl _ rfl _ rfl _ rfl _ rfl _ rfl v41 h41 _ rfl _ rfl _ rfl _ rfl _ rfl _ rfl
    have zs_e4 := e4.size
    refine fin_nil ?_
    refine n_then ?_
    refine c_cond rfl rfl (fun hc => ?_) (fun hc => ?_)
    · skip
      skip
      exfalso
      have hmn := wNum_mono n m
      have hpre := wNum_pre hn hm
      simp at hc
      rcases hc with hc | ⟨hc1, hc2⟩
      · omega
      · exact hc1.1 (by have := hpre hc2; omega)
    · skip
      have e13 := e1.trans (e2.trans e4)
      refine wp_skip ?_
      refine n_then ?_
      refine c_seq ?_
      refine wp_reg (by decide +kernel) ?_
      refine l_v (v_move (t := .slice _ _ _) rfl) ?_
      refine l_v (v_move (t := .slice _ _ _) rfl) ?_
      refine l_to (to_sliceN (t := (tSl tU8)) (xs := [wNum n, l]) (et := 22) (bytes := 24) (zl := [.slice none 0 0, .slice none 0 0]) (by kernel_rfl) (by decide) (by decide) (by unfold kZeros; kernel_rfl) rfl (cells := [_, _]) rfl rfl rfl (reps_bytes2 (o1.ext (e2.trans e4)).view.allB (hv.ext e13).allB) ?_)
      rintro b5 w5 rfl o5 e5 z5
      have zs_e5 := e5.size
      refine l_to (to_f1 (by kernel_rfl) (show _ = (Value.slice _ _ _) from rfl) (CallsR.mono (Join_c o5.view (by simp; omega)) ?_))
      rintro _ w6 ⟨o6, ⟨q6, c6, rfl⟩, e6⟩
      have zs_e6 := e6.size
      refine l_to (to_f1 (by kernel_rfl) (show _ = (Value.slice _ _ _) from rfl) (CallsR.mono (Open_c o6.view (by simp; omega)) ?_))
      rintro _ w7 ⟨b7, rfl, r7, hb7, e7, z7⟩
      have zs_e7 := e7.size
      refine l_v (v_assign (t := .pointer _) rfl) ?_
      refine l_nil ?_
      refine n_then ?_
      refine c_seq ?_
      refine c_seq ?_
      refine wp_reg (by decide +kernel) ?_
      refine l_v (v_move (t := .pointer _) rfl) ?_
      refine l_v (v_peql (et := 71) (by kernel_rfl) rfl rfl) ?_
      refine l_nil ?_
      refine n_then ?_
      refine c_cond rfl rfl (fun hc => ?_) (fun hc => ?_)
      · skip
        cases hc
      · skip
        have e17 := ((e13.trans e5).trans e6).trans e7
        have hA := rdNum_wNum hn l
        have hrow : [wNum n, l].flatten = wNum n ++ l := by simp
        rw [hrow] at r7
        refine wp_skip ?_
        refine n_then ?_
        refine c_seq ?_
        refine wp_reg (by decide +kernel) ?_
        refine l_v (v_move (t := .pointer _) rfl) ?_
        refine l_to (to_f1 (by kernel_rfl) (show _ = (Value.pointer _) from rfl) (CallsR.mono (rNumber_c r7 (by omega)) ?_))
        rintro r w8 ⟨hr8, h8, k8⟩
        have zs_k8 := k8.size
        rw [numV, hA] at hr8
        rw [rest, hA] at h8
        subst hr8
        have e18 : Ext w w8 := e17.step k8 fun i hi h => by omega
        refine l_v (v_move (t := .tuple _) rfl) ?_
        refine l_v (v_extract (t := .int _ _) rfl rfl) ?_
        refine l_v (v_extract (t := .int _ _) rfl rfl) ?_
        refine l_v (v_assign (t := .int _ _) rfl) ?_
        refine l_v (v_assign (t := .int _ _) rfl) ?_
        refine l_nil ?_
        refine n_then ?_
        refine c_seq ?_
        refine wp_reg (by decide +kernel) ?_
        refine l_v (v_move (t := .int _ _) rfl) ?_
        refine l_v (v_move (t := .int _ _) rfl) ?_
        refine l_v (OpVat.as (b := true) (v_eql rfl rfl) (by first | rfl | (simp; done) | (simp; omega))) ?_
        refine l_v (v_move (t := .bool _) rfl) ?_
        refine l_gt rfl rfl (OpTo.of_v (v_move (t := .int _ _) rfl) ?_)
        refine l_gt rfl rfl (to_f1 (by kernel_rfl) (show _ = (Value.int _ _) from rfl) (CallsR.mono (num_c) ?_))
        rintro _ w9 ⟨rfl, e9⟩
        have zs_e9 := e9.size
        refine l_gt rfl rfl (OpTo.of_v (OpVat.as (b := true) (v_eql rfl rfl) (by first | rfl | (simp; done) | (simp; omega))) ?_)
        refine l_v (v_andT rfl rfl) ?_
        refine l_v (v_move (t := .bool _) rfl) ?_
        refine l_gt rfl rfl (OpTo.of_v (v_move (t := .pointer _) rfl) ?_)
        refine l_gt rfl rfl (to_f1 (by kernel_rfl) (show _ = (Value.pointer _) from rfl) (CallsR.mono (Left_c (h8.ext e9)) ?_))
        rintro _ w10 ⟨rfl, e10⟩
        have zs_e10 := e10.size
        refine l_gt rfl rfl (OpTo.of_v (v_move (t := .slice _ _ _) rfl) ?_)
        refine l_gt rfl rfl (OpTo.of_v (v_len (et := 5) (by kernel_rfl) rfl) ?_)
        refine l_gt rfl rfl (OpTo.of_v (OpVat.as (b := true) (v_eql rfl rfl) (by first | rfl | (simp; done) | (simp; omega))) ?_)
        refine l_v (v_andT rfl rfl) ?_
        refine l_v (v_move (t := .bool _) rfl) ?_
        refine l_gt rfl rfl (to_f0 (by kernel_rfl) (CallsR.mono (known_c) ?_))
        rintro _ w11 ⟨rfl, e11⟩
        have zs_e11 := e11.size
        refine l_v (v_andT rfl rfl) ?_
        refine l_v (v_assign (t := .bool _) rfl) ?_
        refine l_nil ?_
        refine n_then ?_
        refine wp_ret ?_
        refine ret1 rfl (by decide) ?_
        exact ⟨rfl, ((e18.trans e9).trans e10).trans e11⟩
end Go.Proofs.Ythnpnniiejcnbaa
