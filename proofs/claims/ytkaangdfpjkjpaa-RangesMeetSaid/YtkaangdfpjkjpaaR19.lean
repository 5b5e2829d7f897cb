/- A part of the proof: steps and lemmas for the walks through the given program. -/
import Derived.Test.YtkaangdfpjkjpaaR16
import Derived.Test.YtkaangdfpjkjpaaR18
namespace Go.Proofs.Ytkaangdfpjkjpaa
open Go.Vc
set_option linter.unusedVariables false
set_option linter.unusedSimpArgs false
set_option maxRecDepth 100000

theorem refMeet_c {w : World} {F G : Nat → Prop} {v u : Value} {a b : RgV} (HG1 : AgV tRg w F v a) (HG2 : AgV tRg w G u b) : CallsR Try.prog 37 #[v, u] w (fun o w' => o = .bool (meetR a b) ∧ Ext w w') := by
  obtain ⟨a1, c1, a2, c2, rfl, HSf, HSt, hg⟩ := HG1.rg
  obtain ⟨a3, c3, a4, c4, rfl, HSg, HSu, hg2⟩ := HG2.rg
  refine enter 34 Try.func37 rfl rfl (by simp) ?_
  refine c_seq ?_
  have E := Keep.refl (K := NoK) w
  replace HSf := HSf.all
  replace HSg := HSg.all
  replace HG1 := HG1.all
  replace HG2 := HG2.all
  refine wp_reg (by decide +kernel) ?_
  refine l_to (to_box (show _ = (Value.agg _) from rfl) ?_)
  rintro b2 w2 zb2 HB2 e2 z2
  have zs_e2 := e2.size
  replace E := E.trans (Ext.keep e2)
  replace HSf := HSf.ext e2
  replace HSg := HSg.ext e2
  replace HG1 := HG1.ext e2
  replace HG2 := HG2.ext e2
  try simp only [Value.cells] at HB2
  refine l_to (to_box (show _ = (Value.agg _) from rfl) ?_)
  rintro b3 w3 zb3 HB3 e3 z3
  have zs_e3 := e3.size
  replace E := E.trans (Ext.keep e3)
  replace HSf := HSf.ext e3
  replace HSg := HSg.ext e3
  replace HG1 := HG1.ext e3
  replace HG2 := HG2.ext e3
  replace HB2 := HB2.ext e3
  try simp only [Value.cells] at HB3
  refine l_v (v_assign rfl) ?_
  refine l_nil ?_
  refine n_then ?_
  refine c_seq ?_
  refine wp_reg (by decide +kernel) ?_
  refine l_v (v_fieldAddr (off := 0) (ft := 35) (by kernel_rfl) rfl) ?_
  refine l_v (v_load (by kernel_rfl) rfl (by first | exact HB3.pv 0 _ rfl | exact HB2.pv 0 _ rfl | assumption)) ?_
  refine l_v (v_assign (t := .slice _ _ _) rfl) ?_
  refine l_nil ?_
  refine n_then ?_
  refine c_seq ?_
  refine c_seq ?_
  refine wp_reg (by decide +kernel) ?_
  refine l_v (v_fieldAddr (off := 0) (ft := 35) (by kernel_rfl) rfl) ?_
  refine l_v (v_load (by kernel_rfl) rfl (by first | exact HB3.pv 0 _ rfl | exact HB2.pv 0 _ rfl | assumption)) ?_
  refine l_v (v_b2s (et := 5) (by kernel_rfl) (by kernel_rfl) (by kernel_rfl) rfl HSg) ?_
  refine l_v (v_move (t := .slice _ _ _) rfl) ?_
  refine l_v (v_b2s (et := 5) (by kernel_rfl) (by kernel_rfl) (by kernel_rfl) rfl HSf) ?_
  refine l_v (v_sgt rfl rfl) ?_
  refine l_nil ?_
  refine n_then ?_
  refine c_cond rfl rfl (fun hc => ?_) (fun hc => ?_)
  · skip
    have hfr : (if a.1 < b.1 then b.1 else a.1) = b.1 := if_pos (dtrue hc)
    refine wp_reg (by decide +kernel) ?_
    refine l_v (v_fieldAddr (off := 0) (ft := 35) (by kernel_rfl) rfl) ?_
    refine l_v (v_load (by kernel_rfl) rfl (by first | exact HB3.pv 0 _ rfl | exact HB2.pv 0 _ rfl | assumption)) ?_
    refine l_v (v_assign (t := .slice _ _ _) rfl) ?_
    refine l_nil ?_
    refine n_then ?_
    refine c_seq ?_
    refine wp_reg (by decide +kernel) ?_
    refine l_v (v_move (t := .slice _ _ _) rfl) ?_
    refine l_to (to_f1 (by kernel_rfl) (show _ = (Value.slice _ _ _) from rfl) (CallsR.mono (least_c HSg) ?_))
    rintro _ w7 ⟨⟨u, rfl, HS7⟩, e7⟩
    have zs_e7 := e7.size
    replace HS7 := HS7.all
    obtain ⟨a7, c7, rfl⟩ := HS7.shape
    replace E := E.trans (Ext.keep e7)
    replace HSf := HSf.ext e7
    replace HSg := HSg.ext e7
    replace HG1 := HG1.ext e7
    replace HG2 := HG2.ext e7
    replace HB2 := HB2.ext e7
    replace HB3 := HB3.ext e7
    refine l_v (v_move (t := .tuple _) rfl) ?_
    refine l_v (v_extract (t := .slice _ _ _) rfl rfl) ?_
    refine l_v (v_extract (t := .bool _) rfl rfl) ?_
    refine l_v (v_assign (t := .slice _ _ _) rfl) ?_
    refine l_v (v_assign (t := .bool _) rfl) ?_
    refine l_nil ?_
    refine n_then ?_
    refine c_seq ?_
    refine wp_reg (by decide +kernel) ?_
    refine l_v (v_move (t := .bool _) rfl) ?_
    refine l_v (v_move (t := .bool _) rfl) ?_
    refine l_g1 rfl rfl (fun hG => v_loadA (by kernel_rfl) rfl (by first | exact HB3.pv | exact HB2.pv | assumption) rfl) ?_
    refine l_g1 rfl rfl (fun hG => v_move (t := .slice _ _ _) rfl) ?_
    refine l_g1f rfl rfl (fun hG => to_f2 (by kernel_rfl) (gd hG rfl) (gd hG rfl) (refHas_c HG1 HS7)) ?_
    rintro w101 e101
    have zs_e101 := e101.size
    replace E := E.trans (Ext.keep e101)
    replace HSf := HSf.ext e101
    replace HSg := HSg.ext e101
    replace HG1 := HG1.ext e101
    replace HG2 := HG2.ext e101
    replace HB2 := HB2.ext e101
    replace HB3 := HB3.ext e101
    replace HS7 := HS7.ext e101
    refine l_v (v_and rfl rfl) ?_
    refine l_v (v_move (t := .bool _) rfl) ?_
    refine l_g1 rfl rfl (fun hG => v_loadA (by kernel_rfl) rfl (by first | exact HB3.pv | exact HB2.pv | assumption) rfl) ?_
    refine l_g1 rfl rfl (fun hG => v_move (t := .slice _ _ _) rfl) ?_
    refine l_g1f rfl rfl (fun hG => to_f2 (by kernel_rfl) (gd hG rfl) (gd hG rfl) (refHas_c HG2 HS7)) ?_
    rintro w102 e102
    have zs_e102 := e102.size
    replace E := E.trans (Ext.keep e102)
    replace HSf := HSf.ext e102
    replace HSg := HSg.ext e102
    replace HG1 := HG1.ext e102
    replace HG2 := HG2.ext e102
    replace HB2 := HB2.ext e102
    replace HB3 := HB3.ext e102
    replace HS7 := HS7.ext e102
    refine l_v (v_and rfl rfl) ?_
    refine l_v (v_assign (t := .bool _) rfl) ?_
    refine l_nil ?_
    refine n_then ?_
    refine c_ret ?_
    refine ret1v rfl (by decide) (show _ = (Value.bool _) from rfl) ?_
    refine ⟨?_, E⟩
    rw [meetR, hfr]; cases leastL b.1 <;> rfl
  · skip
    have hfr : (if a.1 < b.1 then b.1 else a.1) = a.1 := if_neg (dfalse hc)
    refine c_skip ?_
    refine n_then ?_
    refine c_seq ?_
    refine wp_reg (by decide +kernel) ?_
    refine l_v (v_move (t := .slice _ _ _) rfl) ?_
    refine l_to (to_f1 (by kernel_rfl) (show _ = (Value.slice _ _ _) from rfl) (CallsR.mono (least_c HSf) ?_))
    rintro _ w7 ⟨⟨u, rfl, HS7⟩, e7⟩
    have zs_e7 := e7.size
    replace HS7 := HS7.all
    obtain ⟨a7, c7, rfl⟩ := HS7.shape
    replace E := E.trans (Ext.keep e7)
    replace HSf := HSf.ext e7
    replace HSg := HSg.ext e7
    replace HG1 := HG1.ext e7
    replace HG2 := HG2.ext e7
    replace HB2 := HB2.ext e7
    replace HB3 := HB3.ext e7
    refine l_v (v_move (t := .tuple _) rfl) ?_
    refine l_v (v_extract (t := .slice _ _ _) rfl rfl) ?_
    refine l_v (v_extract (t := .bool _) rfl rfl) ?_
    refine l_v (v_assign (t := .slice _ _ _) rfl) ?_
    refine l_v (v_assign (t := .bool _) rfl) ?_
    refine l_nil ?_
    refine n_then ?_
    refine c_seq ?_
    refine wp_reg (by decide +kernel) ?_
    refine l_v (v_move (t := .bool _) rfl) ?_
    refine l_v (v_move (t := .bool _) rfl) ?_
    refine l_g1 rfl rfl (fun hG => v_loadA (by kernel_rfl) rfl (by first | exact HB3.pv | exact HB2.pv | assumption) rfl) ?_
    refine l_g1 rfl rfl (fun hG => v_move (t := .slice _ _ _) rfl) ?_
    refine l_g1f rfl rfl (fun hG => to_f2 (by kernel_rfl) (gd hG rfl) (gd hG rfl) (refHas_c HG1 HS7)) ?_
    rintro w103 e103
    have zs_e103 := e103.size
    replace E := E.trans (Ext.keep e103)
    replace HSf := HSf.ext e103
    replace HSg := HSg.ext e103
    replace HG1 := HG1.ext e103
    replace HG2 := HG2.ext e103
    replace HB2 := HB2.ext e103
    replace HB3 := HB3.ext e103
    replace HS7 := HS7.ext e103
    refine l_v (v_and rfl rfl) ?_
    refine l_v (v_move (t := .bool _) rfl) ?_
    refine l_g1 rfl rfl (fun hG => v_loadA (by kernel_rfl) rfl (by first | exact HB3.pv | exact HB2.pv | assumption) rfl) ?_
    refine l_g1 rfl rfl (fun hG => v_move (t := .slice _ _ _) rfl) ?_
    refine l_g1f rfl rfl (fun hG => to_f2 (by kernel_rfl) (gd hG rfl) (gd hG rfl) (refHas_c HG2 HS7)) ?_
    rintro w104 e104
    have zs_e104 := e104.size
    replace E := E.trans (Ext.keep e104)
    replace HSf := HSf.ext e104
    replace HSg := HSg.ext e104
    replace HG1 := HG1.ext e104
    replace HG2 := HG2.ext e104
    replace HB2 := HB2.ext e104
    replace HB3 := HB3.ext e104
    replace HS7 := HS7.ext e104
    refine l_v (v_and rfl rfl) ?_
    refine l_v (v_assign (t := .bool _) rfl) ?_
    refine l_nil ?_
    refine n_then ?_
    refine c_ret ?_
    refine ret1v rfl (by decide) (show _ = (Value.bool _) from rfl) ?_
    refine ⟨?_, E⟩
    rw [meetR, hfr]; cases leastL a.1 <;> rfl
theorem meet_comm (a b : RgV) : meetR a b = meetR b a := by
  have h : (if a.1 < b.1 then b.1 else a.1) = (if b.1 < a.1 then a.1 else b.1) := by
    by_cases h1 : a.1 < b.1
    · have h2 : ¬ b.1 < a.1 := lb_asymm h1
      rw [if_pos h1, if_neg h2]
    · by_cases h2 : b.1 < a.1
      · rw [if_neg h1, if_pos h2]
      · rw [if_neg h1, if_neg h2]; rcases lb_not h1 with h | h; exact absurd h h2; exact h.symm
  unfold meetR
  rw [h]
  cases leastL (if b.1 < a.1 then a.1 else b.1) with
  | none => rfl
  | some k => exact Bool.and_comm _ _
theorem RangesMeet_c {w : World} {F G : Nat → Prop} {v u : Value} {a b : RgV} (HG1 : AgV tRg w F v a) (HG2 : AgV tRg w G u b) (hl1 : a.1.length ≤ 140737488355328) (hl2 : a.2.1.length ≤ 140737488355328) (hl3 : b.1.length ≤ 140737488355328) (hl4 : b.2.1.length ≤ 140737488355328) : CallsR Try.prog 10 #[v, u] w (fun o w' => o = .bool true ∧ Ext w w') := by
  obtain ⟨a1, c1, a2, c2, rfl, HSf, HSt, hg⟩ := HG1.rg
  obtain ⟨a3, c3, a4, c4, rfl, HSg, HSu, hg2⟩ := HG2.rg
  refine enter 50 Try.func10 rfl rfl (by simp) ?_
  refine c_seq ?_
  have E := Keep.refl (K := NoK) w
  replace HG1 := HG1.all
  replace HG2 := HG2.all
  refine wp_reg (by decide +kernel) ?_
  refine l_to (to_box (show _ = (Value.agg _) from rfl) ?_)
  rintro b2 w2 zb2 HB2 e2 z2
  have zs_e2 := e2.size
  replace E := E.trans (Ext.keep e2)
  replace HG1 := HG1.ext e2
  replace HG2 := HG2.ext e2
  try simp only [Value.cells] at HB2
  refine l_to (to_box (show _ = (Value.agg _) from rfl) ?_)
  rintro b3 w3 zb3 HB3 e3 z3
  have zs_e3 := e3.size
  replace E := E.trans (Ext.keep e3)
  replace HG1 := HG1.ext e3
  replace HG2 := HG2.ext e3
  replace HB2 := HB2.ext e3
  try simp only [Value.cells] at HB3
  refine l_v (v_assign rfl) ?_
  refine l_nil ?_
  refine n_then ?_
  refine c_seq ?_
  refine c_seq ?_
  refine wp_reg (by decide +kernel) ?_
  refine l_v (v_fieldAddr (off := 0) (ft := 35) (by kernel_rfl) rfl) ?_
  refine l_v (v_load (by kernel_rfl) rfl (by first | exact HB3.pv 0 _ rfl | exact HB2.pv 0 _ rfl | assumption)) ?_
  refine l_v (v_len (et := 5) (by kernel_rfl) rfl) ?_
  refine l_v (v_fieldAddr (off := 1) (ft := 35) (by kernel_rfl) rfl) ?_
  refine l_v (v_load (by kernel_rfl) rfl (by first | exact HB3.pv 1 _ rfl | exact HB2.pv 1 _ rfl | assumption)) ?_
  refine l_v (v_len (et := 5) (by kernel_rfl) rfl) ?_
  refine l_v (v_add rfl rfl (by first | exact wr_i64 (by omega) (by omega) | rfl)) ?_
  refine l_v (v_fieldAddr (off := 0) (ft := 35) (by kernel_rfl) rfl) ?_
  refine l_v (v_load (by kernel_rfl) rfl (by first | exact HB3.pv 0 _ rfl | exact HB2.pv 0 _ rfl | assumption)) ?_
  refine l_v (v_len (et := 5) (by kernel_rfl) rfl) ?_
  refine l_v (v_add rfl rfl (by first | exact wr_i64 (by omega) (by omega) | rfl)) ?_
  refine l_v (v_fieldAddr (off := 1) (ft := 35) (by kernel_rfl) rfl) ?_
  refine l_v (v_load (by kernel_rfl) rfl (by first | exact HB3.pv 1 _ rfl | exact HB2.pv 1 _ rfl | assumption)) ?_
  refine l_v (v_len (et := 5) (by kernel_rfl) rfl) ?_
  refine l_v (v_add rfl rfl (by first | exact wr_i64 (by omega) (by omega) | rfl)) ?_
  refine l_v (v_gtr rfl rfl) ?_
  refine l_nil ?_
  refine n_then ?_
  refine c_cond rfl rfl (fun hc => ?_) (fun hc => ?_)
  · skip
    refine c_seq ?_
    refine wp_reg (by decide +kernel) ?_
    refine l_to (to_f0 (by kernel_rfl) (CallsR.mono (known_c) ?_))
    rintro _ w101 ⟨rfl, e101⟩
    have zs_e101 := e101.size
    replace E := E.trans (Ext.keep e101)
    replace HG1 := HG1.ext e101
    replace HG2 := HG2.ext e101
    replace HB2 := HB2.ext e101
    replace HB3 := HB3.ext e101
    refine l_v (v_assign (t := .bool _) rfl) ?_
    refine l_nil ?_
    refine n_then ?_
    refine c_ret ?_
    refine r_then ?_
    refine ret1v rfl (by decide) (show _ = (Value.bool _) from rfl) ?_
    exact ⟨rfl, E⟩
  · skip
    refine c_skip ?_
    refine n_then ?_
    refine c_seq ?_
    refine wp_regd (NoK) (by kernel_rfl) (by decide +kernel) (by decide +kernel) ?_
    refine rt_v (fun vals w hR hd => v_loadA (by kernel_rfl) rfl (by first | exact (HB3.ext hR).pv | exact (HB2.ext hR).pv | assumption) rfl) ?_
    refine rt_v (fun vals w hR hd => v_loadA (by kernel_rfl) rfl (by first | exact (HB3.ext hR).pv | exact (HB2.ext hR).pv | assumption) rfl) ?_
    refine rt_vf (fun vals w hR hd => to_f2 (by kernel_rfl) (hd 0 rfl) (hd 1 rfl) (Meet_c (HG1.ext hR) (HG2.ext hR) hl1 hl3)) ?_
    refine rt_v (fun vals w hR hd => v_loadA (by kernel_rfl) rfl (by first | exact (HB3.ext hR).pv | exact (HB2.ext hR).pv | assumption) rfl) ?_
    refine rt_v (fun vals w hR hd => v_loadA (by kernel_rfl) rfl (by first | exact (HB3.ext hR).pv | exact (HB2.ext hR).pv | assumption) rfl) ?_
    refine rt_vf (fun vals w hR hd => to_f2 (by kernel_rfl) (hd 3 rfl) (hd 4 rfl) (refMeet_c (HG1.ext hR) (HG2.ext hR))) ?_
    refine rt_v (fun vals w hR hd => v_beql (by kernel_rfl) (hd 2 rfl) (hd 5 rfl)) ?_
    refine rt_v (fun vals w hR hd => v_move (t := .bool _) (hd 6 rfl)) ?_
    refine rt_g1 rfl (fun vals w hd => hd 7 rfl) (fun vals w hR hd hG => v_loadA (by kernel_rfl) rfl (by first | exact (HB3.ext hR).pv | exact (HB2.ext hR).pv | assumption) rfl) ?_
    refine rt_g1 rfl (fun vals w hd => hd 7 rfl) (fun vals w hR hd hG => v_loadA (by kernel_rfl) rfl (by first | exact (HB3.ext hR).pv | exact (HB2.ext hR).pv | assumption) rfl) ?_
    refine rt_g1f rfl (fun vals w hd => hd 7 rfl) (fun vals w hR hd hG => to_f2 (by kernel_rfl) (gd hG (hd 8 rfl)) (gd hG (hd 9 rfl)) (Meet_c (HG2.ext hR) (HG1.ext hR) hl3 hl1)) ?_
    refine rt_g1 rfl (fun vals w hd => hd 7 rfl) (fun vals w hR hd hG => v_loadA (by kernel_rfl) rfl (by first | exact (HB3.ext hR).pv | exact (HB2.ext hR).pv | assumption) rfl) ?_
    refine rt_g1 rfl (fun vals w hd => hd 7 rfl) (fun vals w hR hd hG => v_loadA (by kernel_rfl) rfl (by first | exact (HB3.ext hR).pv | exact (HB2.ext hR).pv | assumption) rfl) ?_
    refine rt_g1f rfl (fun vals w hd => hd 7 rfl) (fun vals w hR hd hG => to_f2 (by kernel_rfl) (gd hG (hd 11 rfl)) (gd hG (hd 12 rfl)) (refMeet_c (HG1.ext hR) (HG2.ext hR))) ?_
    refine rt_g1 rfl (fun vals w hd => hd 7 rfl) (fun vals w hR hd hG => v_beql (by kernel_rfl) (gd hG (hd 10 rfl)) (gd hG (hd 13 rfl))) ?_
    refine rt_v (fun vals w hR hd => v_and (hd 7 rfl) (hd 14 rfl)) ?_
    refine rt_v (fun vals w hR hd => v_move (t := .bool _) (hd 15 rfl)) ?_
    refine rt_g1 rfl (fun vals w hd => hd 16 rfl) (fun vals w hR hd hG => v_loadA (by kernel_rfl) rfl (by first | exact (HB3.ext hR).pv | exact (HB2.ext hR).pv | assumption) rfl) ?_
    refine rt_g1 rfl (fun vals w hd => hd 16 rfl) (fun vals w hR hd hG => v_loadA (by kernel_rfl) rfl (by first | exact (HB3.ext hR).pv | exact (HB2.ext hR).pv | assumption) rfl) ?_
    refine rt_g1f rfl (fun vals w hd => hd 16 rfl) (fun vals w hR hd hG => to_f2 (by kernel_rfl) (gd hG (hd 17 rfl)) (gd hG (hd 18 rfl)) (Within_c (HG1.ext hR) (HG2.ext hR))) ?_
    refine rt_g1 rfl (fun vals w hd => hd 16 rfl) (fun vals w hR hd hG => v_loadA (by kernel_rfl) rfl (by first | exact (HB3.ext hR).pv | exact (HB2.ext hR).pv | assumption) rfl) ?_
    refine rt_g1 rfl (fun vals w hd => hd 16 rfl) (fun vals w hR hd hG => v_loadA (by kernel_rfl) rfl (by first | exact (HB3.ext hR).pv | exact (HB2.ext hR).pv | assumption) rfl) ?_
    refine rt_g1f rfl (fun vals w hd => hd 16 rfl) (fun vals w hR hd hG => to_f2 (by kernel_rfl) (gd hG (hd 20 rfl)) (gd hG (hd 21 rfl)) (refWithin_c (HG1.ext hR) (HG2.ext hR))) ?_
    refine rt_g1 rfl (fun vals w hd => hd 16 rfl) (fun vals w hR hd hG => v_beql (by kernel_rfl) (gd hG (hd 19 rfl)) (gd hG (hd 22 rfl))) ?_
    refine rt_v (fun vals w hR hd => v_and (hd 16 rfl) (hd 23 rfl)) ?_
    refine rt_v (fun vals w hR hd => v_move (t := .bool _) (hd 24 rfl)) ?_
    refine rt_g1f rfl (fun vals w hd => hd 25 rfl) (fun vals w hR hd hG => to_f0 (by kernel_rfl) (known_c)) ?_
    refine rt_v (fun vals w hR hd => v_and (hd 25 rfl) (hd 26 rfl)) ?_
    refine rt_v (fun vals w hR hd => v_assign (t := .bool _) (hd 27 rfl)) ?_
    refine rt_nil (fun w102 e102 => ?_)
    rintro _ rfl _ rfl _ rfl _ rfl _ rfl _ rfl _ rfl _ rfl _ rfl _ rfl _ rfl _ rfl _ rfl _ rfl _ rfl _ rfl _ rfl _ rfl _ rfl _ rfl _ rfl _ rfl _ rfl _ rfl _ rfl _ rfl _ rfl _ rfl _ rfl
    have zs_e102 := e102.size
    replace E := E.trans (Ext.keep e102)
    replace HG1 := HG1.ext e102
    replace HG2 := HG2.ext e102
    replace HB2 := HB2.ext e102
    replace HB3 := HB3.ext e102
    refine fin_nil ?_
    refine n_then ?_
    refine c_ret ?_
    refine ret1v rfl (by decide) (show _ = (Value.bool _) from rfl) ?_
    refine ⟨?_, E⟩
    rw [meet_comm b a]; simp
end Go.Proofs.Ytkaangdfpjkjpaa
