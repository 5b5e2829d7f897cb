/- A part of the proof: steps and lemmas for the walks through the given program. -/
import Derived.Test.YthnpnniiejcnbaaW7
namespace Go.Proofs.Ythnpnniiejcnbaa
open Go.Vc
set_option linter.unusedVariables false
set_option maxRecDepth 100000

theorem known_c {w : World} : CallsR Try.prog 18 #[] w (fun r w' => r = .bool true ∧ Ext w w') := by
  have hA : rdNum [128, 1, 2, 97, 98] = some (128, [2, 97, 98]) := by decide
  have hB : rdBytes (2 : Int).toNat [2, 97, 98] = .ok ([97, 98], []) := by rfl
  have hC : rdNum [128, 0] = none := by decide
  obtain ⟨er, her⟩ : ∃ er : Int, er = 4 := ⟨4, rfl⟩
  show CallsR _ _ (List.toArray []) _ _
  refine enter 71 Try.func18 rfl rfl (by simp) ?_
  refine c_seq ?_
  refine wp_reg (by decide +kernel) ?_
  refine l_v (v_assign rfl) ?_
  refine l_nil ?_
  refine n_then ?_
  refine c_seq ?_
  refine wp_reg (by decide +kernel) ?_
  refine l_to (to_sliceN (t := tU8) (xs := [128, 1, 2, 97, 98]) (et := 5) (bytes := 1) (zl := [.int .u8 0, .int .u8 0, .int .u8 0, .int .u8 0, .int .u8 0]) (by kernel_rfl) (by decide) (by decide) (by unfold kZeros; kernel_rfl) rfl (cells := [_, _, _, _, _]) rfl rfl rfl (reps_u8 (F := NoK) rfl) ?_)
  rintro b1 w1 rfl o1 e1 z1
  have zs_e1 := e1.size
  refine l_to (to_f1 (by kernel_rfl) (show _ = (Value.slice _ _ _) from rfl) (CallsR.mono (Open_c (l := [128, 1, 2, 97, 98]) o1.view (by simp)) ?_))
  rintro _ w2 ⟨b2, rfl, h2, hb2, e2, z2⟩
  have zs_e2 := e2.size
  have e12 := e1.trans e2
  refine l_v (v_assign (t := .pointer _) rfl) ?_
  refine l_nil ?_
  refine n_then ?_
  refine c_seq ?_
  refine c_seq ?_
  refine wp_reg (by decide +kernel) ?_
  refine l_v (v_move (t := .pointer _) rfl) ?_
  refine l_v (v_peql (et := 71) (by kernel_rfl) rfl rfl) ?_
  refine l_nil ?_
  refine n_then ?_
  refine c_cond rfl rfl (fun hc => ?_) (fun hc => ?_)
  · skip
    cases hc
  · skip
    refine wp_skip ?_
    refine n_then ?_
    refine c_seq ?_
    refine wp_reg (by decide +kernel) ?_
    refine l_v (v_move (t := .pointer _) rfl) ?_
    refine l_to (to_f1 (by kernel_rfl) (show _ = (Value.pointer _) from rfl) (CallsR.mono (rNumber_c h2 (by omega)) ?_))
    rintro r w3 ⟨hr3, h3, k3⟩
    have zs_k3 := k3.size
    rw [numV, hA] at hr3
    rw [rest, hA] at h3
    subst hr3
    have e13 : Ext w w3 := e12.step k3 fun i hi h => by omega
    refine l_v (v_move (t := .tuple _) rfl) ?_
    refine l_v (v_extract (t := .int _ _) rfl rfl) ?_
    refine l_v (v_extract (t := .int _ _) rfl rfl) ?_
    refine l_v (v_assign (t := .int _ _) rfl) ?_
    refine l_v (v_assign (t := .int _ _) rfl) ?_
    refine l_nil ?_
    refine n_then ?_
    refine c_seq ?_
    refine wp_reg (by decide +kernel) ?_
    refine l_v (v_move (t := .pointer _) rfl) ?_
    refine l_to (to_f2 (by kernel_rfl) (show _ = (Value.pointer _) from rfl) (show _ = (Value.int _ _) from rfl) (CallsR.mono (Bytes2_c h3 (fun k hk => hk.2) (by decide) (by decide) (by simp)) ?_))
    rintro r w4 ⟨hr4, k4⟩
    have zs_k4 := k4.size
    rw [hB] at hr4
    obtain ⟨a4, c4, rfl, o4, h4⟩ := hr4
    have e14 : Ext w w4 := e13.step k4 fun i hi h => by omega
    refine l_v (v_move (t := .tuple _) rfl) ?_
    refine l_v (v_extract (t := .slice _ _ _) rfl rfl) ?_
    refine l_v (v_extract (t := .int _ _) rfl rfl) ?_
    refine l_v (v_assign (t := .slice _ _ _) rfl) ?_
    refine l_v (v_assign (t := .int _ _) rfl) ?_
    refine l_nil ?_
    refine n_then ?_
    refine c_seq ?_
    refine wp_reg (by decide +kernel) ?_
    refine l_to (to_sliceN (t := tU8) (xs := [128, 0]) (et := 5) (bytes := 1) (zl := [.int .u8 0, .int .u8 0]) (by kernel_rfl) (by decide) (by decide) (by unfold kZeros; kernel_rfl) rfl (cells := [_, _]) rfl rfl rfl (reps_u8 (F := NoK) rfl) ?_)
    rintro b5 w5 rfl o5 e5 z5
    have zs_e5 := e5.size
    have e15 := e14.trans e5
    refine l_to (to_f1 (by kernel_rfl) (show _ = (Value.slice _ _ _) from rfl) (CallsR.mono (Open_c (l := [128, 0]) o5.view (by simp)) ?_))
    rintro _ w6 ⟨b6, rfl, h6, hb6, e6, z6⟩
    have zs_e6 := e6.size
    have e16 := e15.trans e6
    refine l_to (to_f1 (by kernel_rfl) (show _ = (Value.pointer _) from rfl) (CallsR.mono (rNumber_c h6 (by omega)) ?_))
    rintro r w7 ⟨hr7, h7, k7⟩
    have zs_k7 := k7.size
    rw [numV, hC] at hr7
    subst hr7
    have e17 : Ext w w7 := e16.step k7 fun i hi h => by omega
    have e47 : Ext w4 w7 := (e5.trans e6).step k7 fun i hi h => by omega
    refine l_v (v_move (t := .tuple _) rfl) ?_
    refine l_v (v_extract (t := .int _ _) rfl rfl) ?_
    refine l_v (v_extract (t := .int _ _) rfl rfl) ?_
    refine l_v (v_assign (t := .int _ _) rfl) ?_
    refine l_v (v_assign (t := .int _ _) rfl) ?_
    refine l_nil ?_
    refine n_then ?_
    refine c_seq ?_
    refine wp_reg (by decide +kernel) ?_
    refine l_v (v_move (t := .int _ _) rfl) ?_
    refine l_v (OpVat.as (b := true) (v_eql rfl rfl) (by first | rfl | (simp; done) | (simp; omega))) ?_
    refine l_v (v_move (t := .bool _) rfl) ?_
    refine l_gt rfl rfl (OpTo.of_v (v_move (t := .int _ _) rfl) ?_)
    refine l_gt rfl rfl (to_f1 (by kernel_rfl) (show _ = (Value.int _ _) from rfl) (CallsR.mono (num_c) ?_))
    rintro _ w8 ⟨rfl, e8⟩
    have zs_e8 := e8.size
    refine l_gt rfl rfl (OpTo.of_v (OpVat.as (b := true) (v_eql rfl rfl) (by first | rfl | (simp; done) | (simp; omega))) ?_)
    refine l_v (v_andT rfl rfl) ?_
    refine l_v (v_move (t := .bool _) rfl) ?_
    refine l_gt rfl rfl (OpTo.of_v (v_move (t := .slice _ _ _) rfl) ?_)
    refine l_gt rfl rfl (OpTo.of_v (v_b2s (et := 5) (by kernel_rfl) (by kernel_rfl) (by kernel_rfl) rfl ((o4.ext (e47.trans e8)).view)) ?_)
    refine l_gt rfl rfl (OpTo.of_v (OpVat.as (b := true) (v_seq rfl rfl) (by first | rfl | (simp; done) | (simp; omega))) ?_)
    refine l_v (v_andT rfl rfl) ?_
    refine l_v (v_move (t := .bool _) rfl) ?_
    refine l_gt rfl rfl (OpTo.of_v (v_move (t := .int _ _) rfl) ?_)
    refine l_gt rfl rfl (to_f1 (by kernel_rfl) (show _ = (Value.int _ _) from rfl) (CallsR.mono (num_c) ?_))
    rintro _ w9 ⟨rfl, e9⟩
    have zs_e9 := e9.size
    refine l_gt rfl rfl (OpTo.of_v (OpVat.as (b := true) (v_eql rfl rfl) (by first | rfl | (simp; done) | (simp; omega))) ?_)
    refine l_v (v_andT rfl rfl) ?_
    refine l_v (v_move (t := .bool _) rfl) ?_
    refine l_gt rfl rfl (OpTo.of_v (v_move (t := .pointer _) rfl) ?_)
    refine l_gt rfl rfl (to_f1 (by kernel_rfl) (show _ = (Value.pointer _) from rfl) (CallsR.mono (Left_c (h4.ext ((e47.trans e8).trans e9))) ?_))
    rintro _ w10 ⟨rfl, e10⟩
    have zs_e10 := e10.size
    refine l_gt rfl rfl (OpTo.of_v (OpVat.as (b := true) (v_eql rfl rfl) (by first | rfl | (simp; done) | (simp; omega))) ?_)
    refine l_v (v_andT rfl rfl) ?_
    refine l_v (v_move (t := .bool _) rfl) ?_
    refine l_gt rfl rfl (OpTo.of_v (v_move (t := .pointer _) rfl) ?_)
    refine l_gt rfl rfl (to_f1 (by kernel_rfl) (show _ = (Value.pointer _) from rfl) (CallsR.mono (End_c (h4.ext (((e47.trans e8).trans e9).trans e10))) ?_))
    rintro _ w11 ⟨rfl, e11⟩
    have zs_e11 := e11.size
    refine l_gt rfl rfl (to_f1 (by kernel_rfl) (show _ = (Value.int _ _) from rfl) (CallsR.mono (num_c) ?_))
    rintro _ w12 ⟨rfl, e12b⟩
    refine l_gt rfl rfl (OpTo.of_v (OpVat.as (b := true) (v_eql rfl rfl) (by first | rfl | (simp; done) | (simp; omega))) ?_)
    refine l_v (v_andT rfl rfl) ?_
    refine l_v (v_move (t := .bool _) rfl) ?_
    refine l_gt rfl rfl (OpTo.of_v (v_move (t := .int _ _) rfl) ?_)
    refine l_gt rfl rfl (to_f1 (by kernel_rfl) (show _ = (Value.int _ _) from rfl) (CallsR.mono (num_c) ?_))
    rintro _ w13 ⟨rfl, e13b⟩
    refine l_gt rfl rfl (OpTo.of_v (OpVat.as (b := true) (v_eql rfl rfl) (by first | rfl | (simp; done) | (simp; omega))) ?_)
    refine l_v (v_andT rfl rfl) ?_
    refine l_v (v_move (t := .bool _) rfl) ?_
    refine l_gt rfl rfl (to_f1 (by kernel_rfl) (show _ = (Value.int _ _) from rfl) (CallsR.mono (Signed_c (n := -1) (by decide) (by decide)) ?_))
    rintro _ w14 ⟨o14, ⟨q14, c14, rfl⟩, e14b⟩
    refine l_gt rfl rfl (OpTo.of_v (v_b2s (et := 5) (by kernel_rfl) (by kernel_rfl) (by kernel_rfl) rfl (o14.view)) ?_)
    refine l_gt rfl rfl (OpTo.of_v (OpVat.as (b := true) (v_seq rfl rfl) (decide_eq_true (by rw [show zig (-1) = 1 from rfl, wNum_lt (by omega)]; rfl))) ?_)
    refine l_v (v_andT rfl rfl) ?_
    refine l_v (v_move (t := .bool _) rfl) ?_
    refine l_gt rfl rfl (to_f1 (by kernel_rfl) (show _ = (Value.int _ _) from rfl) (CallsR.mono (Number_c (n := 300) (by decide)) ?_))
    rintro _ w15 ⟨o15, ⟨q15, c15, rfl⟩, e15b⟩
    refine l_gt rfl rfl (OpTo.of_v (v_b2s (et := 5) (by kernel_rfl) (by kernel_rfl) (by kernel_rfl) rfl (o15.view)) ?_)
    refine l_gt rfl rfl (OpTo.of_v (OpVat.as (b := true) (v_seq rfl rfl) (decide_eq_true (by rw [wNum_ge (by omega), wNum_lt (by omega)]; rfl))) ?_)
    refine l_v (v_andT rfl rfl) ?_
    refine l_v (v_assign (t := .bool _) rfl) ?_
    refine l_nil ?_
    refine n_then ?_
    refine wp_ret ?_
    refine ret1 rfl (by decide) ?_
    exact ⟨rfl, (((((((e17.trans e8).trans e9).trans e10).trans e11).trans e12b).trans e13b).trans e14b).trans e15b⟩

theorem WireSigns_c {w : World} {n : Int} (h1 : -9223372036854775808 ≤ n) (h2 : n ≤ 9223372036854775807) : CallsR Try.prog 3 #[.int .i64 n] w (fun r w' => r = .bool true ∧ Ext w w') := by
  have hz := zig_lt h1 h2
  have hl := wNum_len10 hz
  have hA : rdNum (wNum (zig n)) = some (zig n, []) := by have := rdNum_wNum hz []; rwa [List.append_nil] at this
  refine enter 91 Try.func3 rfl rfl (by simp) ?_
  refine c_seq ?_
  refine wp_reg (by decide +kernel) ?_
  refine l_v (v_assign rfl) ?_
  refine l_nil ?_
  refine n_then ?_
  refine c_seq ?_
  refine wp_reg (by decide +kernel) ?_
  refine l_v (v_move (t := .int _ _) rfl) ?_
  refine l_to (to_f1 (by kernel_rfl) (show _ = (Value.int _ _) from rfl) (CallsR.mono (Signed_c h1 h2) ?_))
  rintro _ w1 ⟨o1, ⟨q1, c1, rfl⟩, e1⟩
  have zs_e1 := e1.size
  refine l_v (v_assign (t := .slice _ _ _) rfl) ?_
  refine l_nil ?_
  refine n_then ?_
  refine c_seq ?_
  refine wp_reg (by decide +kernel) ?_
  refine l_v (v_move (t := .slice _ _ _) rfl) ?_
  refine l_to (to_f1 (by kernel_rfl) (show _ = (Value.slice _ _ _) from rfl) (CallsR.mono (Open_c o1.view (by omega)) ?_))
  rintro _ w2 ⟨b2, rfl, r2, hb2, e2, z2⟩
  have zs_e2 := e2.size
  refine l_v (v_move (t := .slice _ _ _) rfl) ?_
  refine l_to (to_f1 (by kernel_rfl) (show _ = (Value.slice _ _ _) from rfl) (CallsR.mono (Open_c (o1.ext e2).view (by omega)) ?_))
  rintro _ w3 ⟨b3, rfl, r3, hb3, e3, z3⟩
  have zs_e3 := e3.size
  have e23 := e2.trans e3
  refine l_v (v_assign (t := .pointer _) rfl) ?_
  refine l_v (v_assign (t := .pointer _) rfl) ?_
  refine l_nil ?_
  refine n_then ?_
  refine c_seq ?_
  refine c_seq ?_
  refine wp_regd (NoK) (by kernel_rfl) (by decide +kernel) (by decide +kernel) ?_
  refine rt_v (fun vals w hR hd => v_move (t := .pointer _) rfl) ?_
  refine rt_v (fun vals w hR hd => OpVat.as (b := false) (v_peql (et := 71) (by kernel_rfl) (hd 0 rfl) rfl) (by first | rfl | (simp; done) | (simp; omega))) ?_
  refine rt_v (fun vals w hR hd => v_move (t := .bool _) (hd 1 rfl)) ?_
  refine rt_hv rfl (fun vals w hd => hd 2 rfl) (fun vals w hR hd => v_move (t := .pointer _) rfl) ?_
  refine rt_hv rfl (fun vals w hd => hd 2 rfl) (fun vals w hR hd => OpVat.as (b := false) (v_peql (et := 71) (by kernel_rfl) (hd 3 rfl) rfl) (by first | rfl | (simp; done) | (simp; omega))) ?_
  refine rt_v (fun vals w hR hd => v_orT (hd 2 rfl) (hd 4 rfl)) ?_
  refine rt_v (fun vals w hR hd => v_move (t := .bool _) (hd 5 rfl)) ?_
  refine rt_hv rfl (fun vals w hd => hd 6 rfl) (fun vals w hR hd => v_move (t := .slice _ _ _) rfl) ?_
  refine rt_hv rfl (fun vals w hd => hd 6 rfl) (fun vals w hR hd => v_b2s (et := 5) (by kernel_rfl) (by kernel_rfl) (by kernel_rfl) (hd 7 rfl) ((o1.ext (e23.trans hR)).view)) ?_
  refine rt_hv rfl (fun vals w hd => hd 6 rfl) (fun vals w hR hd => v_move (t := .int _ _) rfl) ?_
  refine rt_hto (fun v w => Bv w AllB v (wNum (zig n))) (fun v w w' h k => h.ext k) rfl (fun vals w hd => hd 6 rfl) (fun vals w hR hd => to_f1 (by kernel_rfl) (show _ = (Value.int _ _) from (hd 9 rfl)) (CallsR.mono (refSigned_c h1 h2) fun v w' h => ⟨h.2.2, h.1.view.allB⟩)) ?_
  refine rt_hv rfl (fun vals w hd => hd 6 rfl) (fun vals w hR hd => v_b2s (et := 5) (by kernel_rfl) (by kernel_rfl) (by kernel_rfl) rfl (hd 10 rfl)) ?_
  refine rt_hv rfl (fun vals w hd => hd 6 rfl) (fun vals w hR hd => OpVat.as (b := false) (v_sne (hd 8 rfl) (hd 11 rfl)) (by first | rfl | (simp; done) | (simp; omega))) ?_
  refine rt_v (fun vals w hR hd => v_orT (hd 6 rfl) (hd 12 rfl)) ?_
  refine rt_nil (fun w4 e4 => ?_)
  rintro _ rfl _ rfl _ rfl _ rfl _ rfl _ rfl _ rfl _ rfl _ rfl _ rfl v10 h10 _ rfl _ rfl _ rfl
  have zs_e4 := e4.size
  have e14 := e1.trans (e23.trans e4)
  refine fin_nil ?_
  refine n_then ?_
  refine c_cond rfl rfl (fun hc => ?_) (fun hc => ?_)
  · skip
    cases hc
  · skip
    have r2' := r2.ext (e3.trans e4)
    have r3' := r3.ext e4
    refine wp_skip ?_
    refine n_then ?_
    refine c_seq ?_
    refine wp_reg (by decide +kernel) ?_
    refine l_v (v_move (t := .pointer _) rfl) ?_
    refine l_to (to_f1 (by kernel_rfl) (show _ = (Value.pointer _) from rfl) (CallsR.mono (rSigned_c r2' (by omega)) ?_))
    rintro r w5 ⟨hr5, h5, k5⟩
    have zs_k5 := k5.size
    rw [sgnV, hA] at hr5
    simp only [unzig_zig] at hr5
    subst hr5
    rw [rest, hA] at h5
    refine l_v (v_move (t := .tuple _) rfl) ?_
    refine l_v (v_extract (t := .int _ _) rfl rfl) ?_
    refine l_v (v_extract (t := .int _ _) rfl rfl) ?_
    refine l_v (v_assign (t := .int _ _) rfl) ?_
    refine l_v (v_assign (t := .int _ _) rfl) ?_
    refine l_nil ?_
    refine n_then ?_
    refine c_seq ?_
    refine wp_reg (by decide +kernel) ?_
    refine l_v (v_move (t := .pointer _) rfl) ?_
    refine l_to (to_f1 (by kernel_rfl) (show _ = (Value.pointer _) from rfl) (CallsR.mono (rNumber_c (r3'.keep k5 (by omega) (fun b hb h => by omega)) (by omega)) ?_))
    rintro r w6 ⟨hr6, h6, k6⟩
    have zs_k6 := k6.size
    rw [numV, hA] at hr6
    subst hr6
    rw [rest, hA] at h6
    have h5' := h5.keep k6 (by omega) (fun b hb h => by omega)
    have e16 : Ext w w6 := (e14.step k5 fun i hi h => by omega).step k6 fun i hi h => by omega
    refine l_v (v_move (t := .tuple _) rfl) ?_
    refine l_v (v_extract (t := .int _ _) rfl rfl) ?_
    refine l_v (v_extract (t := .int _ _) rfl rfl) ?_
    refine l_v (v_assign (t := .int _ _) rfl) ?_
    refine l_v (v_assign (t := .int _ _) rfl) ?_
    refine l_nil ?_
    refine n_then ?_
    refine c_seq ?_
    refine c_seq ?_
    refine wp_reg (by decide +kernel) ?_
    refine l_v (v_move (t := .int _ _) rfl) ?_
    refine l_v (v_move (t := .int _ _) rfl) ?_
    refine l_v (OpVat.as (b := false) (v_neq rfl rfl) (by first | rfl | (simp; done) | (simp; omega))) ?_
    refine l_v (v_move (t := .bool _) rfl) ?_
    refine l_gt rfl rfl (OpTo.of_v (v_move (t := .int _ _) rfl) ?_)
    refine l_gt rfl rfl (to_f1 (by kernel_rfl) (show _ = (Value.int _ _) from rfl) (CallsR.mono (num_c) ?_))
    rintro _ w7 ⟨rfl, e7⟩
    have zs_e7 := e7.size
    refine l_gt rfl rfl (OpTo.of_v (v_move (t := .int _ _) rfl) ?_)
    refine l_gt rfl rfl (to_f1 (by kernel_rfl) (show _ = (Value.int _ _) from rfl) (CallsR.mono (num_c) ?_))
    rintro _ w8 ⟨rfl, e8⟩
    have zs_e8 := e8.size
    refine l_gt rfl rfl (OpTo.of_v (v_add rfl rfl (by first | exact wr_i64 (by omega) (by omega) | rfl)) ?_)
    refine l_gt rfl rfl (OpTo.of_v (v_move (t := .pointer _) rfl) ?_)
    refine l_gt rfl rfl (to_f1 (by kernel_rfl) (show _ = (Value.pointer _) from rfl) (CallsR.mono (End_c (h5'.ext (e7.trans e8))) ?_))
    rintro _ w9 ⟨rfl, e9⟩
    have zs_e9 := e9.size
    refine l_gt rfl rfl (to_f1 (by kernel_rfl) (show _ = (Value.int _ _) from rfl) (CallsR.mono (num_c) ?_))
    rintro _ w10 ⟨rfl, e10⟩
    have zs_e10 := e10.size
    refine l_gt rfl rfl (OpTo.of_v (v_add rfl rfl (by first | exact wr_i64 (by omega) (by omega) | rfl)) ?_)
    refine l_gt rfl rfl (OpTo.of_v (v_move (t := .pointer _) rfl) ?_)
    refine l_gt rfl rfl (to_f1 (by kernel_rfl) (show _ = (Value.pointer _) from rfl) (CallsR.mono (End_c (h6.ext (((e7.trans e8).trans e9).trans e10))) ?_))
    rintro _ w11 ⟨rfl, e11⟩
    have zs_e11 := e11.size
    refine l_gt rfl rfl (to_f1 (by kernel_rfl) (show _ = (Value.int _ _) from rfl) (CallsR.mono (num_c) ?_))
    rintro _ w12 ⟨rfl, e12⟩
    have zs_e12 := e12.size
    refine l_gt rfl rfl (OpTo.of_v (v_add rfl rfl (by first | exact wr_i64 (by omega) (by omega) | rfl)) ?_)
    refine l_gt rfl rfl (OpTo.of_v (OpVat.as (b := false) (v_neq rfl rfl) (by first | rfl | (simp; done) | (simp; omega))) ?_)
    have e1c := (((((e16.trans e7).trans e8).trans e9).trans e10).trans e11).trans e12
    refine l_v (v_orT rfl rfl) ?_
    refine l_nil ?_
    refine n_then ?_
    refine c_cond rfl rfl (fun hc2 => ?_) (fun hc2 => ?_)
    · skip
      cases hc2
    · skip
      refine wp_skip ?_
      refine n_then ?_
      refine c_seq ?_
      refine c_seq ?_
      refine wp_reg (by decide +kernel) ?_
      refine l_v (v_move (t := .int _ _) rfl) ?_
      refine l_v (v_geq rfl rfl) ?_
      refine l_v (v_move (t := .bool _) rfl) ?_
      refine l_g1 rfl rfl (fun hG => v_move (t := .int _ _) rfl) ?_
      refine l_g1 rfl rfl (fun hG => v_lss (gd hG rfl) rfl) ?_
      refine l_v (v_and rfl rfl) ?_
      refine l_v (v_move (t := .bool _) rfl) ?_
      refine l_g1 rfl rfl (fun hG => v_move (t := .slice _ _ _) rfl) ?_
      refine l_g1 rfl rfl (fun hG => v_len (et := 5) (by kernel_rfl) (gd hG rfl)) ?_
      refine l_g1 rfl rfl (fun hG => v_neq (gd hG rfl) rfl) ?_
      refine l_v (v_and rfl rfl) ?_
      refine l_nil ?_
      refine n_then ?_
      refine c_cond rfl rfl (fun hc3 => ?_) (fun hc3 => ?_)
      · skip
        skip
        exfalso
        have hzz : zig n < 128 := by
          by_cases hn : n < 0
          · have := zig_neg hn; simp at hc3; omega
          · have := zig_nn (n := n) (by omega); simp at hc3; omega
        rw [wNum_lt hzz] at hc3
        simp at hc3
      · skip
        refine wp_skip ?_
        refine n_then ?_
        refine c_seq ?_
        refine c_seq ?_
        refine wp_reg (by decide +kernel) ?_
        refine l_v (v_move (t := .int _ _) rfl) ?_
        refine l_v (v_lss rfl rfl) ?_
        refine l_nil ?_
        refine n_then ?_
        refine c_cond rfl rfl (fun hc4 => ?_) (fun hc4 => ?_)
        · skip
          have hzn := zig_neg (dtrue hc4)
          refine c_seq ?_
          refine wp_reg (by decide +kernel) ?_
          refine l_v (v_move (t := .int _ _) rfl) ?_
          refine l_v (v_move (t := .int _ _) rfl) ?_
          refine l_v (v_add rfl rfl (by first | exact wr_i64 (by omega) (by omega) | rfl)) ?_
          refine l_v (v_neg rfl (by first | exact wr_i64 (by omega) (by omega) | rfl)) ?_
          refine l_v (v_conv (ds := .int .i64) (by kernel_rfl) (by kernel_rfl) rfl (by first | exact wr_u64 (by omega) (by omega) | rfl)) ?_
          refine l_v (v_mul rfl rfl (by first | exact wr_u64 (by omega) (by omega) | rfl)) ?_
          refine l_v (v_add rfl rfl (by first | exact wr_u64 (by omega) (by omega) | rfl)) ?_
          refine l_v (OpVat.as (b := true) (v_eql rfl rfl) (decide_eq_true (by omega))) ?_
          refine l_v (v_move (t := .bool _) rfl) ?_
          refine l_gt rfl rfl (to_f0 (by kernel_rfl) (CallsR.mono (known_c) ?_))
          rintro _ w13 ⟨rfl, e13⟩
          have zs_e13 := e13.size
          refine l_v (v_andT rfl rfl) ?_
          refine l_v (v_assign (t := .bool _) rfl) ?_
          refine l_nil ?_
          refine n_then ?_
          refine wp_ret ?_
          refine r_then ?_
          refine ret1 rfl (by decide) ?_
          exact ⟨rfl, e1c.trans e13⟩
        · skip
          have hzn := zig_nn (n := n) (by have := dfalse hc4; omega)
          refine wp_skip ?_
          refine n_then ?_
          refine c_seq ?_
          refine wp_reg (by decide +kernel) ?_
          refine l_v (v_move (t := .int _ _) rfl) ?_
          refine l_v (v_move (t := .int _ _) rfl) ?_
          refine l_v (v_conv (ds := .int .i64) (by kernel_rfl) (by kernel_rfl) rfl (by first | exact wr_u64 (by omega) (by omega) | rfl)) ?_
          refine l_v (v_mul rfl rfl (by first | exact wr_u64 (by omega) (by omega) | rfl)) ?_
          refine l_v (OpVat.as (b := true) (v_eql rfl rfl) (decide_eq_true (by omega))) ?_
          refine l_v (v_move (t := .bool _) rfl) ?_
          refine l_gt rfl rfl (to_f0 (by kernel_rfl) (CallsR.mono (known_c) ?_))
          rintro _ w13 ⟨rfl, e13⟩
          have zs_e13 := e13.size
          refine l_v (v_andT rfl rfl) ?_
          refine l_v (v_assign (t := .bool _) rfl) ?_
          refine l_nil ?_
          refine n_then ?_
          refine wp_ret ?_
          refine ret1 rfl (by decide) ?_
          exact ⟨rfl, e1c.trans e13⟩
end Go.Proofs.Ythnpnniiejcnbaa
