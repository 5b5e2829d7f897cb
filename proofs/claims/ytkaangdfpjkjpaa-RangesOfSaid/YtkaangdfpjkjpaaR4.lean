/- A part of the proof: steps and lemmas for the walks through the given program. -/
import Derived.Test.YtkaangdfpjkjpaaGr
import Derived.Test.YtkaangdfpjkjpaaGe
namespace Go.Proofs.Ytkaangdfpjkjpaa
open Go.Vc
set_option linter.unusedVariables false
set_option linter.unusedSimpArgs false
set_option maxRecDepth 100000

theorem empty_c {w : World} {F : Nat → Prop} {v : Value} {a : RgV} (HG1 : AgV tRg w F v a) : CallsR Try.prog 65 #[v] w (fun o w' => o = .bool (a.2.2.1 && !decide (a.1 < a.2.1)) ∧ Ext w w') := by
  obtain ⟨a1, c1, a2, c2, rfl, HSf, HSt, hg⟩ := HG1.rg
  refine enter 14 Try.func65 rfl rfl (by simp) ?_
  refine c_seq ?_
  have E := Keep.refl (K := NoK) w
  replace HSf := HSf.all
  replace HSt := HSt.all
  refine wp_reg (by decide +kernel) ?_
  refine l_to (to_box (show _ = (Value.agg _) from rfl) ?_)
  rintro b101 w101 zb101 HB101 e101 z101
  have zs_e101 := e101.size
  replace E := E.trans (Ext.keep e101)
  replace HSf := HSf.ext e101
  replace HSt := HSt.ext e101
  try simp only [Value.cells] at HB101
  refine l_v (v_assign rfl) ?_
  refine l_nil ?_
  refine n_then ?_
  refine c_seq ?_
  refine wp_reg (by decide +kernel) ?_
  refine l_v (v_fieldAddr (off := 2) (ft := 4) (by kernel_rfl) rfl) ?_
  refine l_v (v_load (by kernel_rfl) rfl (by first | exact HB101.pv 2 _ rfl | assumption)) ?_
  refine l_v (v_move (t := .bool _) rfl) ?_
  refine l_g1 rfl rfl (fun hG => v_fieldAddr (off := 1) (ft := 35) (by kernel_rfl) rfl) ?_
  refine l_g1 rfl rfl (fun hG => v_load (by kernel_rfl) (gd hG rfl) (by first | exact HB101.pv 1 _ rfl | assumption)) ?_
  refine l_g1 rfl rfl (fun hG => v_b2s (et := 5) (by kernel_rfl) (by kernel_rfl) (by kernel_rfl) (gd hG rfl) HSt) ?_
  refine l_g1 rfl rfl (fun hG => v_fieldAddr (off := 0) (ft := 35) (by kernel_rfl) rfl) ?_
  refine l_g1 rfl rfl (fun hG => v_load (by kernel_rfl) (gd hG rfl) (by first | exact HB101.pv 0 _ rfl | assumption)) ?_
  refine l_g1 rfl rfl (fun hG => v_b2s (et := 5) (by kernel_rfl) (by kernel_rfl) (by kernel_rfl) (gd hG rfl) HSf) ?_
  refine l_g1 rfl rfl (fun hG => v_sle (gd hG rfl) (gd hG rfl)) ?_
  refine l_v (v_and rfl rfl) ?_
  refine l_v (v_assign (t := .bool _) rfl) ?_
  refine l_nil ?_
  refine n_then ?_
  refine c_ret ?_
  refine ret1v rfl (by decide) (show _ = (Value.bool _) from rfl) ?_
  refine ⟨?_, E⟩
  all_goals (cases a.2.2.1 <;> cases decide (a.1 < a.2.1) <;> rfl)
theorem Within_c {w : World} {F G : Nat → Prop} {v u : Value} {a b : RgV} (HG1 : AgV tRg w F v a) (HG2 : AgV tRg w G u b) : CallsR Try.prog 38 #[v, u] w (fun o w' => o = .bool (withinR a b) ∧ Ext w w') := by
  obtain ⟨a1, c1, a2, c2, rfl, HSf, HSt, hg⟩ := HG1.rg
  obtain ⟨a3, c3, a4, c4, rfl, HSg, HSu, hg2⟩ := HG2.rg
  refine enter 38 Try.func38 rfl rfl (by simp) ?_
  refine c_seq ?_
  have E := Keep.refl (K := NoK) w
  replace HSf := HSf.all
  replace HSt := HSt.all
  replace HSg := HSg.all
  replace HSu := HSu.all
  refine wp_reg (by decide +kernel) ?_
  refine l_to (to_box (show _ = (Value.agg _) from rfl) ?_)
  rintro b101 w101 zb101 HB101 e101 z101
  have zs_e101 := e101.size
  replace E := E.trans (Ext.keep e101)
  replace HSf := HSf.ext e101
  replace HSt := HSt.ext e101
  replace HSg := HSg.ext e101
  replace HSu := HSu.ext e101
  try simp only [Value.cells] at HB101
  refine l_to (to_box (show _ = (Value.agg _) from rfl) ?_)
  rintro b102 w102 zb102 HB102 e102 z102
  have zs_e102 := e102.size
  replace E := E.trans (Ext.keep e102)
  replace HSf := HSf.ext e102
  replace HSt := HSt.ext e102
  replace HSg := HSg.ext e102
  replace HSu := HSu.ext e102
  replace HB101 := HB101.ext e102
  try simp only [Value.cells] at HB102
  refine l_v (v_assign rfl) ?_
  refine l_nil ?_
  refine n_then ?_
  refine c_seq ?_
  refine c_seq ?_
  refine wp_reg (by decide +kernel) ?_
  refine l_v (v_fieldAddr (off := 2) (ft := 4) (by kernel_rfl) rfl) ?_
  refine l_v (v_load (by kernel_rfl) rfl (by first | exact HB102.pv 2 _ rfl | exact HB101.pv 2 _ rfl | assumption)) ?_
  refine l_v (v_move (t := .bool _) rfl) ?_
  refine l_g1 rfl rfl (fun hG => v_fieldAddr (off := 1) (ft := 35) (by kernel_rfl) rfl) ?_
  refine l_g1 rfl rfl (fun hG => v_load (by kernel_rfl) (gd hG rfl) (by first | exact HB102.pv 1 _ rfl | exact HB101.pv 1 _ rfl | assumption)) ?_
  refine l_g1 rfl rfl (fun hG => v_fieldAddr (off := 0) (ft := 35) (by kernel_rfl) rfl) ?_
  refine l_g1 rfl rfl (fun hG => v_load (by kernel_rfl) (gd hG rfl) (by first | exact HB102.pv 0 _ rfl | exact HB101.pv 0 _ rfl | assumption)) ?_
  refine l_g1f rfl rfl (fun hG => to_f2 (by kernel_rfl) (gd hG rfl) (gd hG rfl) (Compare_c HSt HSf)) ?_
  rintro w103 e103
  have zs_e103 := e103.size
  replace E := E.trans (Ext.keep e103)
  replace HSf := HSf.ext e103
  replace HSt := HSt.ext e103
  replace HSg := HSg.ext e103
  replace HSu := HSu.ext e103
  replace HB101 := HB101.ext e103
  replace HB102 := HB102.ext e103
  refine l_g1 rfl rfl (fun hG => v_leq (gd hG rfl) rfl) ?_
  refine l_v (v_and rfl rfl) ?_
  refine l_nil ?_
  refine n_then ?_
  refine c_cond rfl rfl (fun hc => ?_) (fun hc => ?_)
  · skip
    refine c_seq ?_
    refine wp_reg (by decide +kernel) ?_
    refine l_v (v_assign rfl) ?_
    refine l_nil ?_
    refine n_then ?_
    refine c_ret ?_
    refine r_then ?_
    refine ret1v rfl (by decide) (show _ = (Value.bool _) from rfl) ?_
    refine ⟨?_, E⟩
    rw [d_cmp_le] at hc
    have : (a.2.2.1 && !decide (a.1 < a.2.1)) = true := by revert hc; cases a.2.2.1 <;> cases decide (a.1 < a.2.1) <;> simp
    rw [withinR, this]; rfl
  · skip
    have h0 : (a.2.2.1 && !decide (a.1 < a.2.1)) = false := by rw [d_cmp_le] at hc; revert hc; cases a.2.2.1 <;> cases decide (a.1 < a.2.1) <;> simp
    refine c_skip ?_
    refine n_then ?_
    refine c_seq ?_
    refine wp_reg (by decide +kernel) ?_
    refine l_v (v_fieldAddr (off := 0) (ft := 35) (by kernel_rfl) rfl) ?_
    refine l_v (v_load (by kernel_rfl) rfl (by first | exact HB102.pv 0 _ rfl | exact HB101.pv 0 _ rfl | assumption)) ?_
    refine l_v (v_fieldAddr (off := 0) (ft := 35) (by kernel_rfl) rfl) ?_
    refine l_v (v_load (by kernel_rfl) rfl (by first | exact HB102.pv 0 _ rfl | exact HB101.pv 0 _ rfl | assumption)) ?_
    refine l_to (to_f2 (by kernel_rfl) (show _ = (Value.slice _ _ _) from rfl) (show _ = (Value.slice _ _ _) from rfl) (CallsR.mono (Compare_c HSf HSg) ?_))
    rintro _ w104 ⟨rfl, e104⟩
    have zs_e104 := e104.size
    replace E := E.trans (Ext.keep e104)
    replace HSf := HSf.ext e104
    replace HSt := HSt.ext e104
    replace HSg := HSg.ext e104
    replace HSu := HSu.ext e104
    replace HB101 := HB101.ext e104
    replace HB102 := HB102.ext e104
    refine l_v (v_geq rfl rfl) ?_
    refine l_v (v_move (t := .bool _) rfl) ?_
    refine l_g1 rfl rfl (fun hG => v_fieldAddr (off := 2) (ft := 4) (by kernel_rfl) rfl) ?_
    refine l_g1 rfl rfl (fun hG => v_load (by kernel_rfl) (gd hG rfl) (by first | exact HB102.pv 2 _ rfl | exact HB101.pv 2 _ rfl | assumption)) ?_
    refine l_g1 rfl rfl (fun hG => v_not (gd hG rfl)) ?_
    refine l_g1 rfl rfl (fun hG => v_move (t := .bool _) (gd hG rfl)) ?_
    refine l_g2 rfl rfl (fun hG => v_fieldAddr (off := 2) (ft := 4) (by kernel_rfl) rfl) ?_
    refine l_g2 rfl rfl (fun hG => v_load (by kernel_rfl) (gd hG rfl) (by first | exact HB102.pv 2 _ rfl | exact HB101.pv 2 _ rfl | assumption)) ?_
    refine l_g2 rfl rfl (fun hG => v_move (t := .bool _) (gd hG rfl)) ?_
    refine l_g2 rfl rfl (fun hG => v_fieldAddr (off := 1) (ft := 35) (by kernel_rfl) rfl) ?_
    refine l_g2 rfl rfl (fun hG => v_load (by kernel_rfl) (gd hG rfl) (by first | exact HB102.pv 1 _ rfl | exact HB101.pv 1 _ rfl | assumption)) ?_
    refine l_g2 rfl rfl (fun hG => v_fieldAddr (off := 1) (ft := 35) (by kernel_rfl) rfl) ?_
    refine l_g2 rfl rfl (fun hG => v_load (by kernel_rfl) (gd hG rfl) (by first | exact HB102.pv 1 _ rfl | exact HB101.pv 1 _ rfl | assumption)) ?_
    refine l_g2f rfl rfl (fun hG => to_f2 (by kernel_rfl) (gd hG rfl) (gd hG rfl) (Compare_c HSt HSu)) ?_
    rintro w105 e105
    have zs_e105 := e105.size
    replace E := E.trans (Ext.keep e105)
    replace HSf := HSf.ext e105
    replace HSt := HSt.ext e105
    replace HSg := HSg.ext e105
    replace HSu := HSu.ext e105
    replace HB101 := HB101.ext e105
    replace HB102 := HB102.ext e105
    refine l_g2 rfl rfl (fun hG => v_leq (gd hG rfl) rfl) ?_
    refine l_g2 rfl rfl (fun hG => v_and (gd hG rfl) (gda hG rfl)) ?_
    refine l_g1 rfl rfl (fun hG => v_or (gd hG rfl) (gda hG rfl)) ?_
    refine l_v (v_and rfl rfl) ?_
    refine l_v (v_assign (t := .bool _) rfl) ?_
    refine l_nil ?_
    refine n_then ?_
    refine c_ret ?_
    refine ret1v rfl (by decide) (show _ = (Value.bool _) from rfl) ?_
    refine ⟨?_, E⟩
    rw [withinR, h0, d_cmp_ge, d_cmp_le]
    cases decide (a.1 < b.1) <;> cases b.2.2.1 <;> cases a.2.2.1 <;> cases decide (b.2.1 < a.2.1) <;> rfl
theorem refWithin_c {w : World} {F G : Nat → Prop} {v u : Value} {a b : RgV} (HG1 : AgV tRg w F v a) (HG2 : AgV tRg w G u b) : CallsR Try.prog 39 #[v, u] w (fun o w' => o = .bool (withinR a b) ∧ Ext w w') := by
  obtain ⟨a1, c1, a2, c2, rfl, HSf, HSt, hg⟩ := HG1.rg
  obtain ⟨a3, c3, a4, c4, rfl, HSg, HSu, hg2⟩ := HG2.rg
  refine enter 32 Try.func39 rfl rfl (by simp) ?_
  refine c_seq ?_
  have E := Keep.refl (K := NoK) w
  replace HSf := HSf.all
  replace HSt := HSt.all
  replace HSg := HSg.all
  replace HSu := HSu.all
  replace HG1 := HG1.all
  replace HG2 := HG2.all
  refine wp_reg (by decide +kernel) ?_
  refine l_to (to_box (show _ = (Value.agg _) from rfl) ?_)
  rintro b101 w101 zb101 HB101 e101 z101
  have zs_e101 := e101.size
  replace E := E.trans (Ext.keep e101)
  replace HSf := HSf.ext e101
  replace HSt := HSt.ext e101
  replace HSg := HSg.ext e101
  replace HSu := HSu.ext e101
  replace HG1 := HG1.ext e101
  replace HG2 := HG2.ext e101
  try simp only [Value.cells] at HB101
  refine l_to (to_box (show _ = (Value.agg _) from rfl) ?_)
  rintro b102 w102 zb102 HB102 e102 z102
  have zs_e102 := e102.size
  replace E := E.trans (Ext.keep e102)
  replace HSf := HSf.ext e102
  replace HSt := HSt.ext e102
  replace HSg := HSg.ext e102
  replace HSu := HSu.ext e102
  replace HG1 := HG1.ext e102
  replace HG2 := HG2.ext e102
  replace HB101 := HB101.ext e102
  try simp only [Value.cells] at HB102
  refine l_v (v_assign rfl) ?_
  refine l_nil ?_
  refine n_then ?_
  refine c_seq ?_
  refine c_seq ?_
  refine wp_reg (by decide +kernel) ?_
  refine l_v (v_loadA (by kernel_rfl) rfl (by first | exact HB102.pv | exact HB101.pv | assumption) rfl) ?_
  refine l_to (to_f1 (by kernel_rfl) (show _ = (Value.agg _) from rfl) (CallsR.mono (empty_c HG1) ?_))
  rintro _ w103 ⟨rfl, e103⟩
  have zs_e103 := e103.size
  replace E := E.trans (Ext.keep e103)
  replace HSf := HSf.ext e103
  replace HSt := HSt.ext e103
  replace HSg := HSg.ext e103
  replace HSu := HSu.ext e103
  replace HG1 := HG1.ext e103
  replace HG2 := HG2.ext e103
  replace HB101 := HB101.ext e103
  replace HB102 := HB102.ext e103
  refine l_nil ?_
  refine n_then ?_
  refine c_cond rfl rfl (fun hc => ?_) (fun hc => ?_)
  · skip
    refine c_seq ?_
    refine wp_reg (by decide +kernel) ?_
    refine l_v (v_assign rfl) ?_
    refine l_nil ?_
    refine n_then ?_
    refine c_ret ?_
    refine r_then ?_
    refine ret1v rfl (by decide) (show _ = (Value.bool _) from rfl) ?_
    refine ⟨?_, E⟩
    rw [withinR, hc]; rfl
  · skip
    refine c_skip ?_
    refine n_then ?_
    refine c_seq ?_
    refine wp_reg (by decide +kernel) ?_
    refine l_v (v_fieldAddr (off := 0) (ft := 35) (by kernel_rfl) rfl) ?_
    refine l_v (v_load (by kernel_rfl) rfl (by first | exact HB102.pv 0 _ rfl | exact HB101.pv 0 _ rfl | assumption)) ?_
    refine l_v (v_b2s (et := 5) (by kernel_rfl) (by kernel_rfl) (by kernel_rfl) rfl HSf) ?_
    refine l_v (v_fieldAddr (off := 0) (ft := 35) (by kernel_rfl) rfl) ?_
    refine l_v (v_load (by kernel_rfl) rfl (by first | exact HB102.pv 0 _ rfl | exact HB101.pv 0 _ rfl | assumption)) ?_
    refine l_v (v_b2s (et := 5) (by kernel_rfl) (by kernel_rfl) (by kernel_rfl) rfl HSg) ?_
    refine l_v (v_sge rfl rfl) ?_
    refine l_v (v_move (t := .bool _) rfl) ?_
    refine l_g1 rfl rfl (fun hG => v_fieldAddr (off := 2) (ft := 4) (by kernel_rfl) rfl) ?_
    refine l_g1 rfl rfl (fun hG => v_load (by kernel_rfl) (gd hG rfl) (by first | exact HB102.pv 2 _ rfl | exact HB101.pv 2 _ rfl | assumption)) ?_
    refine l_g1 rfl rfl (fun hG => v_not (gd hG rfl)) ?_
    refine l_g1 rfl rfl (fun hG => v_move (t := .bool _) (gd hG rfl)) ?_
    refine l_g2 rfl rfl (fun hG => v_fieldAddr (off := 2) (ft := 4) (by kernel_rfl) rfl) ?_
    refine l_g2 rfl rfl (fun hG => v_load (by kernel_rfl) (gd hG rfl) (by first | exact HB102.pv 2 _ rfl | exact HB101.pv 2 _ rfl | assumption)) ?_
    refine l_g2 rfl rfl (fun hG => v_move (t := .bool _) (gd hG rfl)) ?_
    refine l_g2 rfl rfl (fun hG => v_fieldAddr (off := 1) (ft := 35) (by kernel_rfl) rfl) ?_
    refine l_g2 rfl rfl (fun hG => v_load (by kernel_rfl) (gd hG rfl) (by first | exact HB102.pv 1 _ rfl | exact HB101.pv 1 _ rfl | assumption)) ?_
    refine l_g2 rfl rfl (fun hG => v_b2s (et := 5) (by kernel_rfl) (by kernel_rfl) (by kernel_rfl) (gd hG rfl) HSt) ?_
    refine l_g2 rfl rfl (fun hG => v_fieldAddr (off := 1) (ft := 35) (by kernel_rfl) rfl) ?_
    refine l_g2 rfl rfl (fun hG => v_load (by kernel_rfl) (gd hG rfl) (by first | exact HB102.pv 1 _ rfl | exact HB101.pv 1 _ rfl | assumption)) ?_
    refine l_g2 rfl rfl (fun hG => v_b2s (et := 5) (by kernel_rfl) (by kernel_rfl) (by kernel_rfl) (gd hG rfl) HSu) ?_
    refine l_g2 rfl rfl (fun hG => v_sle (gd hG rfl) (gd hG rfl)) ?_
    refine l_g2 rfl rfl (fun hG => v_and (gd hG rfl) (gda hG rfl)) ?_
    refine l_g1 rfl rfl (fun hG => v_or (gd hG rfl) (gda hG rfl)) ?_
    refine l_v (v_and rfl rfl) ?_
    refine l_v (v_assign (t := .bool _) rfl) ?_
    refine l_nil ?_
    refine n_then ?_
    refine c_ret ?_
    refine ret1v rfl (by decide) (show _ = (Value.bool _) from rfl) ?_
    refine ⟨?_, E⟩
    rw [withinR, hc]
    cases decide (a.1 < b.1) <;> cases b.2.2.1 <;> cases a.2.2.1 <;> cases decide (b.2.1 < a.2.1) <;> rfl
theorem Meet_c {w : World} {F G : Nat → Prop} {v u : Value} {a b : RgV} (HG1 : AgV tRg w F v a) (HG2 : AgV tRg w G u b) (hl1 : a.1.length ≤ 140737488355328) (hl2 : b.1.length ≤ 140737488355328) : CallsR Try.prog 36 #[v, u] w (fun o w' => o = .bool (meetR a b) ∧ Ext w w') := by
  obtain ⟨a1, c1, a2, c2, rfl, HSf, HSt, hg⟩ := HG1.rg
  obtain ⟨a3, c3, a4, c4, rfl, HSg, HSu, hg2⟩ := HG2.rg
  refine enter 65 Try.func36 rfl rfl (by simp) ?_
  refine c_seq ?_
  have E := Keep.refl (K := NoK) w
  replace HSf := HSf.all
  replace HSg := HSg.all
  replace HG1 := HG1.all
  replace HG2 := HG2.all
  refine wp_reg (by decide +kernel) ?_
  refine l_to (to_box (show _ = (Value.agg _) from rfl) ?_)
  rintro b101 w101 zb101 HB101 e101 z101
  have zs_e101 := e101.size
  replace E := E.trans (Ext.keep e101)
  replace HSf := HSf.ext e101
  replace HSg := HSg.ext e101
  replace HG1 := HG1.ext e101
  replace HG2 := HG2.ext e101
  try simp only [Value.cells] at HB101
  refine l_to (to_box (show _ = (Value.agg _) from rfl) ?_)
  rintro b102 w102 zb102 HB102 e102 z102
  have zs_e102 := e102.size
  replace E := E.trans (Ext.keep e102)
  replace HSf := HSf.ext e102
  replace HSg := HSg.ext e102
  replace HG1 := HG1.ext e102
  replace HG2 := HG2.ext e102
  replace HB101 := HB101.ext e102
  try simp only [Value.cells] at HB102
  refine l_v (v_assign rfl) ?_
  refine l_nil ?_
  refine n_then ?_
  refine c_seq ?_
  refine wp_reg (by decide +kernel) ?_
  refine l_v (v_fieldAddr (off := 0) (ft := 35) (by kernel_rfl) rfl) ?_
  refine l_v (v_load (by kernel_rfl) rfl (by first | exact HB102.pv 0 _ rfl | exact HB101.pv 0 _ rfl | assumption)) ?_
  refine l_v (v_assign (t := .slice _ _ _) rfl) ?_
  refine l_nil ?_
  refine n_then ?_
  refine c_seq ?_
  refine c_seq ?_
  refine wp_reg (by decide +kernel) ?_
  refine l_v (v_fieldAddr (off := 0) (ft := 35) (by kernel_rfl) rfl) ?_
  refine l_v (v_load (by kernel_rfl) rfl (by first | exact HB102.pv 0 _ rfl | exact HB101.pv 0 _ rfl | assumption)) ?_
  refine l_v (v_move (t := .slice _ _ _) rfl) ?_
  refine l_to (to_f2 (by kernel_rfl) (show _ = (Value.slice _ _ _) from rfl) (show _ = (Value.slice _ _ _) from rfl) (CallsR.mono (Compare_c HSg HSf) ?_))
  rintro _ w103 ⟨rfl, e103⟩
  have zs_e103 := e103.size
  replace E := E.trans (Ext.keep e103)
  replace HSf := HSf.ext e103
  replace HSg := HSg.ext e103
  replace HG1 := HG1.ext e103
  replace HG2 := HG2.ext e103
  replace HB101 := HB101.ext e103
  replace HB102 := HB102.ext e103
  refine l_v (v_gtr rfl rfl) ?_
  refine l_nil ?_
  refine n_then ?_
  refine c_cond rfl rfl (fun hc => ?_) (fun hc => ?_)
  · skip
    have hfr : (if a.1 < b.1 then b.1 else a.1) = b.1 := if_pos (cmpB_gt.1 (dtrue hc))
    refine wp_reg (by decide +kernel) ?_
    refine l_v (v_fieldAddr (off := 0) (ft := 35) (by kernel_rfl) rfl) ?_
    refine l_v (v_load (by kernel_rfl) rfl (by first | exact HB102.pv 0 _ rfl | exact HB101.pv 0 _ rfl | assumption)) ?_
    refine l_v (v_assign (t := .slice _ _ _) rfl) ?_
    refine l_nil ?_
    refine n_then ?_
    refine c_seq ?_
    refine wp_reg (by decide +kernel) ?_
    refine l_v (v_move (t := .slice _ _ _) rfl) ?_
    refine l_to (to_f1 (by kernel_rfl) (show _ = (Value.slice _ _ _) from rfl) (CallsR.mono (Clone_c HSg hl2) ?_))
    rintro v7 w7 ⟨HO7, e7⟩
    have zs_e7 := e7.size
    obtain ⟨a7, c7, rfl⟩ := HO7.shape
    have hm7 := HO7.len_max
    replace E := E.trans (Ext.keep e7)
    replace HSf := HSf.ext e7
    replace HSg := HSg.ext e7
    replace HG1 := HG1.ext e7
    replace HG2 := HG2.ext e7
    replace HB101 := HB101.ext e7
    replace HB102 := HB102.ext e7
    have zo_HO7 := fun (b : Nat) h => HO7.own_lt (b := b) h
    refine l_v (v_assign (t := .slice _ _ _) rfl) ?_
    refine l_nil ?_
    refine n_then ?_
    refine c_seq ?_
    refine c_block ?_
    refine c_seq ?_
    refine wp_reg (by decide +kernel) ?_
    refine l_v (v_move (t := .slice _ _ _) rfl) ?_
    refine l_v (v_len (et := 5) (by kernel_rfl) rfl) ?_
    refine l_v (v_eql rfl rfl) ?_
    refine l_v (v_assign (t := .bool _) rfl) ?_
    refine l_nil ?_
    refine n_then ?_
    refine c_cond rfl rfl (fun hl => ?_) (fun hl => ?_)
    · skip
      have hx0 : b.1 = [] := List.eq_nil_of_length_eq_zero (by have := dtrue hl; omega)
      refine wp_reg (by decide +kernel) ?_
      refine l_to (to_slice1 (t := tU8) (et := 5) (bytes := 1) (by kernel_rfl) (by decide) (show _ = (Value.int _ _) from rfl) (rep_u8 (F := NoK) 0 rfl) ?_)
      rintro b8 w8 zb8 HO8 e8 z8
      have zs_e8 := e8.size
      replace E := E.trans (Ext.keep e8)
      replace HSf := HSf.ext e8
      replace HSg := HSg.ext e8
      replace HG1 := HG1.ext e8
      replace HG2 := HG2.ext e8
      replace HB101 := HB101.ext e8
      replace HB102 := HB102.ext e8
      replace HO7 := HO7.ext e8
      have zo_HO8 := fun (b : Nat) h => HO8.own_lt (b := b) h
      refine l_v (v_assign (t := .slice _ _ _) rfl) ?_
      refine l_nil ?_
      refine n_blk ?_
      refine n_then ?_
      refine c_seq ?_
      refine wp_reg (by decide +kernel) ?_
      refine l_v (v_loadA (by kernel_rfl) rfl (by first | exact HB102.pv | exact HB101.pv | assumption) rfl) ?_
      refine l_v (v_move (t := .slice _ _ _) rfl) ?_
      refine l_to (to_f2 (by kernel_rfl) (show _ = (Value.agg _) from rfl) (show _ = (Value.slice _ _ _) from rfl) (CallsR.mono (Has_c HG1 HO8.view) ?_))
      rintro _ w104 ⟨rfl, e104⟩
      have zs_e104 := e104.size
      replace E := E.trans (Ext.keep e104)
      replace HSf := HSf.ext e104
      replace HSg := HSg.ext e104
      replace HG1 := HG1.ext e104
      replace HG2 := HG2.ext e104
      replace HB101 := HB101.ext e104
      replace HB102 := HB102.ext e104
      replace HO7 := HO7.ext e104
      replace HO8 := HO8.ext e104
      refine l_v (v_move (t := .bool _) rfl) ?_
      refine l_g1 rfl rfl (fun hG => v_loadA (by kernel_rfl) rfl (by first | exact HB102.pv | exact HB101.pv | assumption) rfl) ?_
      refine l_g1 rfl rfl (fun hG => v_move (t := .slice _ _ _) rfl) ?_
      refine l_g1f rfl rfl (fun hG => to_f2 (by kernel_rfl) (gd hG rfl) (gd hG rfl) (Has_c HG2 HO8.view)) ?_
      rintro w105 e105
      have zs_e105 := e105.size
      replace E := E.trans (Ext.keep e105)
      replace HSf := HSf.ext e105
      replace HSg := HSg.ext e105
      replace HG1 := HG1.ext e105
      replace HG2 := HG2.ext e105
      replace HB101 := HB101.ext e105
      replace HB102 := HB102.ext e105
      replace HO7 := HO7.ext e105
      replace HO8 := HO8.ext e105
      refine l_v (v_and rfl rfl) ?_
      refine l_v (v_assign (t := .bool _) rfl) ?_
      refine l_nil ?_
      refine n_then ?_
      refine c_ret ?_
      refine ret1v rfl (by decide) (show _ = (Value.bool _) from rfl) ?_
      refine ⟨?_, E⟩
      rw [meetR, hfr, leastL, if_pos hx0]
      all_goals rfl
    · skip
      have hx0 : b.1 ≠ [] := fun h => by have := dfalse hl; rw [h] at this; exact this rfl
      refine c_seq ?_
      refine wp_reg (by decide +kernel) ?_
      refine l_v (v_move (t := .slice _ _ _) rfl) ?_
      refine l_v (v_len (et := 5) (by kernel_rfl) rfl) ?_
      refine l_v (v_gtr rfl rfl) ?_
      refine l_v (v_assign (t := .bool _) rfl) ?_
      refine l_nil ?_
      refine n_then ?_
      refine c_cond rfl rfl (fun hl2 => ?_) (fun hl2 => ?_)
      · skip
        have h24 : ¬ (b.1).length ≤ 24 := by have := dtrue hl2; omega
        obtain ⟨b9, rfl, hb9, hb9'⟩ := HO7.addr hx0
        have hcap := HO7.cap
        refine c_seq ?_
        refine wp_reg (by decide +kernel) ?_
        refine l_v (v_move (t := .slice _ _ _) rfl) ?_
        refine l_v (v_slicePre (et := 5) (sz := 1) (h := 24) (by kernel_rfl) (by kernel_rfl) rfl rfl (by first | rfl | omega) (by omega)) ?_
        have HO9 := HO7.pre (m := 24) (by omega)
        have hl9 : ((b.1).take 24).length = 24 := by rw [List.length_take]; omega
        obtain ⟨y, hy⟩ : ∃ y, y = (b.1).take 24 := ⟨_, rfl⟩
        rw [← hy] at HO9 hl9
        have zo_HO9 := fun (b : Nat) h => HO9.own_lt (b := b) h
        refine l_v (v_assign (t := .slice _ _ _) rfl) ?_
        refine l_nil ?_
        refine n_then ?_
        refine c_seq ?_
        refine c_block ?_
        refine c_loop (τ := Nat) [6, 29, 30, 31, 32, 33, 34, 35, 36, 37, 38, 39, 40, 41, 42, 43, 44, 45] (fun n => [(6, .slice (some ⟨b9, 0, none⟩) n c7)]) (fun n W => Ext w W ∧ Keep (NoK) w7 W ∧ n ≤ 24 ∧ trim255 y = trim255 (y.take n)) (fun n => n) 24 (by exact ⟨rfl, trivial⟩) (by exact ⟨E, Keep.refl _, Nat.le_refl _, by rw [List.take_of_length_le (by omega)]⟩) ?_
        rintro n w106 j ⟨E, EL1, h1, h2⟩
        have zs_EL1 := EL1.size
        replace HSf := HSf.ext EL1
        replace HSg := HSg.ext EL1
        replace HG1 := HG1.ext EL1
        replace HG2 := HG2.ext EL1
        replace HB101 := HB101.ext EL1
        replace HB102 := HB102.ext EL1
        replace HO9 := HO9.ext EL1
        refine c_seq ?_
        refine c_seq ?_
        refine wp_reg (by decide +kernel) ?_
        refine l_v (v_move (t := .slice _ _ _) rfl) ?_
        refine l_v (v_len (et := 5) (by kernel_rfl) rfl) ?_
        refine l_v (v_gtr rfl rfl) ?_
        refine l_v (v_move (t := .bool _) rfl) ?_
        refine l_g1 rfl rfl (fun hG => v_move (t := .slice _ _ _) rfl) ?_
        refine l_g1 rfl rfl (fun hG => v_move (t := .slice _ _ _) rfl) ?_
        refine l_g1 rfl rfl (fun hG => v_len (et := 5) (by kernel_rfl) (gd hG rfl)) ?_
        refine l_g1 rfl rfl (fun hG => v_sub (gd hG rfl) rfl (by first | exact wr_i64 (by omega) (by omega) | rfl)) ?_
        refine l_g1 rfl rfl (fun hG => v_indexAddr (et := 5) (sz := 1) (k := n - 1) (by kernel_rfl) (by kernel_rfl) (gd hG rfl) (gd hG rfl) (by have := hG; simp at this; omega) (by have := hG; simp at this; omega)) ?_
        refine l_g1 rfl rfl (fun hG => v_load (by kernel_rfl) (gd hG rfl) (HO9.cell1 (k := n - 1) (xx := y.getD (n - 1) 0) (by have := hG; simp at this; simp [show n - 1 < y.length by omega]))) ?_
        refine l_g1 rfl rfl (fun hG => v_eql (gd hG rfl) rfl) ?_
        refine l_v (v_and rfl rfl) ?_
        refine l_nil ?_
        refine n_then ?_
        refine c_cond rfl rfl (fun h40 => ?_) (fun h40 => ?_)
        · skip
          have hn : 0 < n := by
            rcases Nat.eq_zero_or_pos n with h | h
            · subst h; simp at h40
            · exact h
          refine c_skip ?_
          refine n_then ?_
          refine c_block ?_
          refine wp_reg (by decide +kernel) ?_
          refine l_v (v_move (t := .slice _ _ _) rfl) ?_
          refine l_v (v_move (t := .slice _ _ _) rfl) ?_
          refine l_v (v_len (et := 5) (by kernel_rfl) rfl) ?_
          refine l_v (v_sub rfl rfl (by first | exact wr_i64 (by omega) (by omega) | rfl)) ?_
          refine l_v (v_slicePre (et := 5) (sz := 1) (h := n - 1) (by kernel_rfl) (by kernel_rfl) rfl rfl (by first | rfl | omega) (by omega)) ?_
          refine l_v (v_assign (t := .slice _ _ _) rfl) ?_
          refine l_nil ?_
          refine n_blk ?_
          refine n_then ?_
          refine ⟨n - 1, _, rfl, by (repeat (first | exact Off.of_over _ _ _ | refine Off.upd ?_ (by decide) _)), ⟨by first | rfl | exact congrArg (Value.int _) (by omega) | (simp; done), trivial⟩, ⟨E, EL1, ?_⟩, ?_⟩
          · skip
            refine ⟨by omega, ?_⟩
            rw [h2]
            have h255 : y.getD (n - 1) 0 = 255 := by
              have : decide (((y.getD (n - 1) 0).toNat : Int) = 255) = true := by rw [show decide (0 < (n : Int)) = true from decide_eq_true (by omega)] at h40; exact h40
              exact UInt8.toNat_inj.1 (by have h9 := dtrue this; have : (255 : UInt8).toNat = 255 := rfl; omega)
            exact trim_snoc (by omega) h255
          · (dsimp only; omega)
        · skip
          have ht : trim255 y = y.take n := by
            rw [h2]
            refine trim_stop fun hn => ?_
            have h0 : 0 < n := by rcases Nat.eq_zero_or_pos n with h | h; (subst h; simp at hn); exact h
            rw [show decide (0 < (n : Int)) = true from decide_eq_true (by omega)] at h40
            have h3 : decide (((y.getD (n - 1) 0).toNat : Int) = 255) = false := h40
            refine ⟨y.getD (n - 1) 0, ?_, fun he => ?_⟩
            · rw [List.getLast?_take]; simp [show n ≠ 0 by omega, show n - 1 < y.length by omega]
            · rw [he] at h3; exact absurd h3 (by decide)
          have hln : (y.take n).length = n := by rw [List.length_take]; omega
          refine c_exit ?_
          refine x_then ?_
          refine x_then ?_
          refine x_hit ?_
          refine n_then ?_
          refine c_seq ?_
          refine c_seq ?_
          refine wp_reg (by decide +kernel) ?_
          refine l_v (v_move (t := .slice _ _ _) rfl) ?_
          refine l_v (v_len (et := 5) (by kernel_rfl) rfl) ?_
          refine l_v (v_eql rfl rfl) ?_
          refine l_nil ?_
          refine n_then ?_
          refine c_cond rfl rfl (fun h48 => ?_) (fun h48 => ?_)
          · skip
            refine c_seq ?_
            refine wp_reg (by decide +kernel) ?_
            refine l_v (v_assign rfl) ?_
            refine l_nil ?_
            refine n_then ?_
            refine c_ret ?_
            refine r_then ?_
            refine r_blk ?_
            refine r_then ?_
            refine ret1v rfl (by decide) (show _ = (Value.bool _) from rfl) ?_
            refine ⟨?_, E⟩
            have hn : n = 0 := by have := dtrue h48; omega
            subst hn
            rw [meetR, hfr, leastL, if_neg hx0, if_neg h24, ← hy, ht]; rfl
          · skip
            have hn : 0 < n := by have := dfalse h48; omega
            have HO10 := HO9.pre (m := n) (by omega)
            have hyl : y[n - 1]? = some (y.getD (n - 1) 0) := by simp [show n - 1 < y.length by omega]
            have zo_HO10 := fun (b : Nat) h => HO10.own_lt (b := b) h
            refine c_skip ?_
            refine n_then ?_
            refine wp_reg (by decide +kernel) ?_
            refine l_v (v_move (t := .slice _ _ _) rfl) ?_
            refine l_v (v_move (t := .slice _ _ _) rfl) ?_
            refine l_v (v_len (et := 5) (by kernel_rfl) rfl) ?_
            refine l_v (v_sub rfl rfl (by first | exact wr_i64 (by omega) (by omega) | rfl)) ?_
            refine l_v (v_indexAddr (et := 5) (sz := 1) (k := n - 1) (by kernel_rfl) (by kernel_rfl) rfl rfl (by first | rfl | omega) (by omega)) ?_
            refine l_v (v_load (by kernel_rfl) rfl (HO10.cell1 (k := n - 1) (xx := y.getD (n - 1) 0) (by rw [List.getElem?_take_of_lt (by omega)]; exact hyl))) ?_
            refine l_v (v_add (t := (((y.getD (n - 1) 0 + 1 : UInt8).toNat : Nat) : Int)) rfl rfl ((by (have h1 : (y.getD (n - 1) 0 + 1 : UInt8).toNat = ((y.getD (n - 1) 0).toNat + 1) % 256 := (by rw [UInt8.toNat_add]; rfl)); rw [wr_u8m, h1]; omega))) ?_
            refine l_v (v_indexAddr (et := 5) (sz := 1) (k := n - 1) (by kernel_rfl) (by kernel_rfl) rfl rfl (by first | rfl | omega) (by omega)) ?_
            refine l_to (to_storeO (k := n - 1) (off := 0) rfl ((by rw [add_lit, Nat.zero_add, Nat.add_zero]; rfl)) (by decide) (show _ = (Value.int _ _) from rfl) rfl (by kernel_rfl) HO10 (by rw [List.getElem?_take_of_lt (by omega)]; exact hyl) (fun cs h => show tU8.rep _ _ _ (y.getD (n - 1) 0 + 1) from by have h' : cs = [.int .u8 (y.getD (n - 1) 0).toNat] := h; subst h'; rfl) ?_)
            rintro w11 HO11 k11 z11
            have zs_k11 := k11.size
            replace E := E.step k11 (by intro i hi he; (try dsimp only [NoK] at hi he ⊢); first | exact he.elim | omega | exact he)
            replace HSf := HSf.keep k11 (by intro i _ hi he; (try dsimp only [NoK, AllB] at hi he); first | exact hi.elim | exact he.elim | omega | (rcases hi with hi | hi <;> omega) | (rcases he with he | he <;> omega))
            replace HSg := HSg.keep k11 (by intro i _ hi he; (try dsimp only [NoK, AllB] at hi he); first | exact hi.elim | exact he.elim | omega | (rcases hi with hi | hi <;> omega) | (rcases he with he | he <;> omega))
            replace HG1 := HG1.keep k11 (by intro i _ hi he; (try dsimp only [NoK, AllB] at hi he); first | exact hi.elim | exact he.elim | omega | (rcases hi with hi | hi <;> omega) | (rcases he with he | he <;> omega))
            replace HG2 := HG2.keep k11 (by intro i _ hi he; (try dsimp only [NoK, AllB] at hi he); first | exact hi.elim | exact he.elim | omega | (rcases hi with hi | hi <;> omega) | (rcases he with he | he <;> omega))
            replace HB101 := HB101.keep k11 (by intro h; (try dsimp only at h); first | omega)
            replace HB102 := HB102.keep k11 (by intro h; (try dsimp only at h); first | omega)
            have zo_HO11 := fun (b : Nat) h => HO11.own_lt (b := b) h
            refine l_nil ?_
            refine n_blk ?_
            refine n_then ?_
            refine c_seq ?_
            refine wp_reg (by decide +kernel) ?_
            refine l_v (v_loadA (by kernel_rfl) rfl (by first | exact HB102.pv | exact HB101.pv | assumption) rfl) ?_
            refine l_v (v_move (t := .slice _ _ _) rfl) ?_
            refine l_to (to_f2 (by kernel_rfl) (show _ = (Value.agg _) from rfl) (show _ = (Value.slice _ _ _) from rfl) (CallsR.mono (Has_c HG1 HO11.view) ?_))
            rintro _ w107 ⟨rfl, e107⟩
            have zs_e107 := e107.size
            replace E := E.trans (Ext.keep e107)
            replace HSf := HSf.ext e107
            replace HSg := HSg.ext e107
            replace HG1 := HG1.ext e107
            replace HG2 := HG2.ext e107
            replace HB101 := HB101.ext e107
            replace HB102 := HB102.ext e107
            replace HO11 := HO11.ext e107
            refine l_v (v_move (t := .bool _) rfl) ?_
            refine l_g1 rfl rfl (fun hG => v_loadA (by kernel_rfl) rfl (by first | exact HB102.pv | exact HB101.pv | assumption) rfl) ?_
            refine l_g1 rfl rfl (fun hG => v_move (t := .slice _ _ _) rfl) ?_
            refine l_g1f rfl rfl (fun hG => to_f2 (by kernel_rfl) (gd hG rfl) (gd hG rfl) (Has_c HG2 HO11.view)) ?_
            rintro w108 e108
            have zs_e108 := e108.size
            replace E := E.trans (Ext.keep e108)
            replace HSf := HSf.ext e108
            replace HSg := HSg.ext e108
            replace HG1 := HG1.ext e108
            replace HG2 := HG2.ext e108
            replace HB101 := HB101.ext e108
            replace HB102 := HB102.ext e108
            replace HO11 := HO11.ext e108
            refine l_v (v_and rfl rfl) ?_
            refine l_v (v_assign (t := .bool _) rfl) ?_
            refine l_nil ?_
            refine n_then ?_
            refine c_ret ?_
            refine ret1v rfl (by decide) (show _ = (Value.bool _) from rfl) ?_
            refine ⟨?_, E⟩
            have hne : ¬ trim255 y = [] := by rw [ht]; intro h; rw [h] at hln; simp at hln; omega
            have hbm : (y.take n).set (n - 1) (y.getD (n - 1) 0 + 1) = bump (trim255 y) := by rw [ht]; exact set_last hln hn (by rw [List.getElem?_take_of_lt (by omega)]; exact hyl)
            rw [meetR, hfr, leastL, if_neg hx0, if_neg h24, ← hy]
            simp only [if_neg hne]
            rw [← hbm]
            all_goals rfl
      · skip
        have h24 : (b.1).length ≤ 24 := by have := dfalse hl2; omega
        refine c_skip ?_
        refine n_blk ?_
        refine n_then ?_
        refine c_seq ?_
        refine wp_reg (by decide +kernel) ?_
        refine l_v (v_loadA (by kernel_rfl) rfl (by first | exact HB102.pv | exact HB101.pv | assumption) rfl) ?_
        refine l_v (v_move (t := .slice _ _ _) rfl) ?_
        refine l_to (to_f2 (by kernel_rfl) (show _ = (Value.agg _) from rfl) (show _ = (Value.slice _ _ _) from rfl) (CallsR.mono (Has_c HG1 HO7.view) ?_))
        rintro _ w109 ⟨rfl, e109⟩
        have zs_e109 := e109.size
        replace E := E.trans (Ext.keep e109)
        replace HSf := HSf.ext e109
        replace HSg := HSg.ext e109
        replace HG1 := HG1.ext e109
        replace HG2 := HG2.ext e109
        replace HB101 := HB101.ext e109
        replace HB102 := HB102.ext e109
        replace HO7 := HO7.ext e109
        refine l_v (v_move (t := .bool _) rfl) ?_
        refine l_g1 rfl rfl (fun hG => v_loadA (by kernel_rfl) rfl (by first | exact HB102.pv | exact HB101.pv | assumption) rfl) ?_
        refine l_g1 rfl rfl (fun hG => v_move (t := .slice _ _ _) rfl) ?_
        refine l_g1f rfl rfl (fun hG => to_f2 (by kernel_rfl) (gd hG rfl) (gd hG rfl) (Has_c HG2 HO7.view)) ?_
        rintro w110 e110
        have zs_e110 := e110.size
        replace E := E.trans (Ext.keep e110)
        replace HSf := HSf.ext e110
        replace HSg := HSg.ext e110
        replace HG1 := HG1.ext e110
        replace HG2 := HG2.ext e110
        replace HB101 := HB101.ext e110
        replace HB102 := HB102.ext e110
        replace HO7 := HO7.ext e110
        refine l_v (v_and rfl rfl) ?_
        refine l_v (v_assign (t := .bool _) rfl) ?_
        refine l_nil ?_
        refine n_then ?_
        refine c_ret ?_
        refine ret1v rfl (by decide) (show _ = (Value.bool _) from rfl) ?_
        refine ⟨?_, E⟩
        rw [meetR, hfr, leastL, if_neg hx0, if_pos h24]
        all_goals rfl
  · skip
    have hfr : (if a.1 < b.1 then b.1 else a.1) = a.1 := if_neg (fun h => dfalse hc (cmpB_gt.2 h))
    refine c_skip ?_
    refine n_then ?_
    refine c_seq ?_
    refine wp_reg (by decide +kernel) ?_
    refine l_v (v_move (t := .slice _ _ _) rfl) ?_
    refine l_to (to_f1 (by kernel_rfl) (show _ = (Value.slice _ _ _) from rfl) (CallsR.mono (Clone_c HSf hl1) ?_))
    rintro v7 w7 ⟨HO7, e7⟩
    have zs_e7 := e7.size
    obtain ⟨a7, c7, rfl⟩ := HO7.shape
    have hm7 := HO7.len_max
    replace E := E.trans (Ext.keep e7)
    replace HSf := HSf.ext e7
    replace HSg := HSg.ext e7
    replace HG1 := HG1.ext e7
    replace HG2 := HG2.ext e7
    replace HB101 := HB101.ext e7
    replace HB102 := HB102.ext e7
    have zo_HO7 := fun (b : Nat) h => HO7.own_lt (b := b) h
    refine l_v (v_assign (t := .slice _ _ _) rfl) ?_
    refine l_nil ?_
    refine n_then ?_
    refine c_seq ?_
    refine c_block ?_
    refine c_seq ?_
    refine wp_reg (by decide +kernel) ?_
    refine l_v (v_move (t := .slice _ _ _) rfl) ?_
    refine l_v (v_len (et := 5) (by kernel_rfl) rfl) ?_
    refine l_v (v_eql rfl rfl) ?_
    refine l_v (v_assign (t := .bool _) rfl) ?_
    refine l_nil ?_
    refine n_then ?_
    refine c_cond rfl rfl (fun hl => ?_) (fun hl => ?_)
    · skip
      have hx0 : a.1 = [] := List.eq_nil_of_length_eq_zero (by have := dtrue hl; omega)
      refine wp_reg (by decide +kernel) ?_
      refine l_to (to_slice1 (t := tU8) (et := 5) (bytes := 1) (by kernel_rfl) (by decide) (show _ = (Value.int _ _) from rfl) (rep_u8 (F := NoK) 0 rfl) ?_)
      rintro b8 w8 zb8 HO8 e8 z8
      have zs_e8 := e8.size
      replace E := E.trans (Ext.keep e8)
      replace HSf := HSf.ext e8
      replace HSg := HSg.ext e8
      replace HG1 := HG1.ext e8
      replace HG2 := HG2.ext e8
      replace HB101 := HB101.ext e8
      replace HB102 := HB102.ext e8
      replace HO7 := HO7.ext e8
      have zo_HO8 := fun (b : Nat) h => HO8.own_lt (b := b) h
      refine l_v (v_assign (t := .slice _ _ _) rfl) ?_
      refine l_nil ?_
      refine n_blk ?_
      refine n_then ?_
      refine c_seq ?_
      refine wp_reg (by decide +kernel) ?_
      refine l_v (v_loadA (by kernel_rfl) rfl (by first | exact HB102.pv | exact HB101.pv | assumption) rfl) ?_
      refine l_v (v_move (t := .slice _ _ _) rfl) ?_
      refine l_to (to_f2 (by kernel_rfl) (show _ = (Value.agg _) from rfl) (show _ = (Value.slice _ _ _) from rfl) (CallsR.mono (Has_c HG1 HO8.view) ?_))
      rintro _ w111 ⟨rfl, e111⟩
      have zs_e111 := e111.size
      replace E := E.trans (Ext.keep e111)
      replace HSf := HSf.ext e111
      replace HSg := HSg.ext e111
      replace HG1 := HG1.ext e111
      replace HG2 := HG2.ext e111
      replace HB101 := HB101.ext e111
      replace HB102 := HB102.ext e111
      replace HO7 := HO7.ext e111
      replace HO8 := HO8.ext e111
      refine l_v (v_move (t := .bool _) rfl) ?_
      refine l_g1 rfl rfl (fun hG => v_loadA (by kernel_rfl) rfl (by first | exact HB102.pv | exact HB101.pv | assumption) rfl) ?_
      refine l_g1 rfl rfl (fun hG => v_move (t := .slice _ _ _) rfl) ?_
      refine l_g1f rfl rfl (fun hG => to_f2 (by kernel_rfl) (gd hG rfl) (gd hG rfl) (Has_c HG2 HO8.view)) ?_
      rintro w112 e112
      have zs_e112 := e112.size
      replace E := E.trans (Ext.keep e112)
      replace HSf := HSf.ext e112
      replace HSg := HSg.ext e112
      replace HG1 := HG1.ext e112
      replace HG2 := HG2.ext e112
      replace HB101 := HB101.ext e112
      replace HB102 := HB102.ext e112
      replace HO7 := HO7.ext e112
      replace HO8 := HO8.ext e112
      refine l_v (v_and rfl rfl) ?_
      refine l_v (v_assign (t := .bool _) rfl) ?_
      refine l_nil ?_
      refine n_then ?_
      refine c_ret ?_
      refine ret1v rfl (by decide) (show _ = (Value.bool _) from rfl) ?_
      refine ⟨?_, E⟩
      rw [meetR, hfr, leastL, if_pos hx0]
      all_goals rfl
    · skip
      have hx0 : a.1 ≠ [] := fun h => by have := dfalse hl; rw [h] at this; exact this rfl
      refine c_seq ?_
      refine wp_reg (by decide +kernel) ?_
      refine l_v (v_move (t := .slice _ _ _) rfl) ?_
      refine l_v (v_len (et := 5) (by kernel_rfl) rfl) ?_
      refine l_v (v_gtr rfl rfl) ?_
      refine l_v (v_assign (t := .bool _) rfl) ?_
      refine l_nil ?_
      refine n_then ?_
      refine c_cond rfl rfl (fun hl2 => ?_) (fun hl2 => ?_)
      · skip
        have h24 : ¬ (a.1).length ≤ 24 := by have := dtrue hl2; omega
        obtain ⟨b9, rfl, hb9, hb9'⟩ := HO7.addr hx0
        have hcap := HO7.cap
        refine c_seq ?_
        refine wp_reg (by decide +kernel) ?_
        refine l_v (v_move (t := .slice _ _ _) rfl) ?_
        refine l_v (v_slicePre (et := 5) (sz := 1) (h := 24) (by kernel_rfl) (by kernel_rfl) rfl rfl (by first | rfl | omega) (by omega)) ?_
        have HO9 := HO7.pre (m := 24) (by omega)
        have hl9 : ((a.1).take 24).length = 24 := by rw [List.length_take]; omega
        obtain ⟨y, hy⟩ : ∃ y, y = (a.1).take 24 := ⟨_, rfl⟩
        rw [← hy] at HO9 hl9
        have zo_HO9 := fun (b : Nat) h => HO9.own_lt (b := b) h
        refine l_v (v_assign (t := .slice _ _ _) rfl) ?_
        refine l_nil ?_
        refine n_then ?_
        refine c_seq ?_
        refine c_block ?_
        refine c_loop (τ := Nat) [6, 29, 30, 31, 32, 33, 34, 35, 36, 37, 38, 39, 40, 41, 42, 43, 44, 45] (fun n => [(6, .slice (some ⟨b9, 0, none⟩) n c7)]) (fun n W => Ext w W ∧ Keep (NoK) w7 W ∧ n ≤ 24 ∧ trim255 y = trim255 (y.take n)) (fun n => n) 24 (by exact ⟨rfl, trivial⟩) (by exact ⟨E, Keep.refl _, Nat.le_refl _, by rw [List.take_of_length_le (by omega)]⟩) ?_
        rintro n w113 j ⟨E, EL2, h1, h2⟩
        have zs_EL2 := EL2.size
        replace HSf := HSf.ext EL2
        replace HSg := HSg.ext EL2
        replace HG1 := HG1.ext EL2
        replace HG2 := HG2.ext EL2
        replace HB101 := HB101.ext EL2
        replace HB102 := HB102.ext EL2
        replace HO9 := HO9.ext EL2
        refine c_seq ?_
        refine c_seq ?_
        refine wp_reg (by decide +kernel) ?_
        refine l_v (v_move (t := .slice _ _ _) rfl) ?_
        refine l_v (v_len (et := 5) (by kernel_rfl) rfl) ?_
        refine l_v (v_gtr rfl rfl) ?_
        refine l_v (v_move (t := .bool _) rfl) ?_
        refine l_g1 rfl rfl (fun hG => v_move (t := .slice _ _ _) rfl) ?_
        refine l_g1 rfl rfl (fun hG => v_move (t := .slice _ _ _) rfl) ?_
        refine l_g1 rfl rfl (fun hG => v_len (et := 5) (by kernel_rfl) (gd hG rfl)) ?_
        refine l_g1 rfl rfl (fun hG => v_sub (gd hG rfl) rfl (by first | exact wr_i64 (by omega) (by omega) | rfl)) ?_
        refine l_g1 rfl rfl (fun hG => v_indexAddr (et := 5) (sz := 1) (k := n - 1) (by kernel_rfl) (by kernel_rfl) (gd hG rfl) (gd hG rfl) (by have := hG; simp at this; omega) (by have := hG; simp at this; omega)) ?_
        refine l_g1 rfl rfl (fun hG => v_load (by kernel_rfl) (gd hG rfl) (HO9.cell1 (k := n - 1) (xx := y.getD (n - 1) 0) (by have := hG; simp at this; simp [show n - 1 < y.length by omega]))) ?_
        refine l_g1 rfl rfl (fun hG => v_eql (gd hG rfl) rfl) ?_
        refine l_v (v_and rfl rfl) ?_
        refine l_nil ?_
        refine n_then ?_
        refine c_cond rfl rfl (fun h40 => ?_) (fun h40 => ?_)
        · skip
          have hn : 0 < n := by
            rcases Nat.eq_zero_or_pos n with h | h
            · subst h; simp at h40
            · exact h
          refine c_skip ?_
          refine n_then ?_
          refine c_block ?_
          refine wp_reg (by decide +kernel) ?_
          refine l_v (v_move (t := .slice _ _ _) rfl) ?_
          refine l_v (v_move (t := .slice _ _ _) rfl) ?_
          refine l_v (v_len (et := 5) (by kernel_rfl) rfl) ?_
          refine l_v (v_sub rfl rfl (by first | exact wr_i64 (by omega) (by omega) | rfl)) ?_
          refine l_v (v_slicePre (et := 5) (sz := 1) (h := n - 1) (by kernel_rfl) (by kernel_rfl) rfl rfl (by first | rfl | omega) (by omega)) ?_
          refine l_v (v_assign (t := .slice _ _ _) rfl) ?_
          refine l_nil ?_
          refine n_blk ?_
          refine n_then ?_
          refine ⟨n - 1, _, rfl, by (repeat (first | exact Off.of_over _ _ _ | refine Off.upd ?_ (by decide) _)), ⟨by first | rfl | exact congrArg (Value.int _) (by omega) | (simp; done), trivial⟩, ⟨E, EL2, ?_⟩, ?_⟩
          · skip
            refine ⟨by omega, ?_⟩
            rw [h2]
            have h255 : y.getD (n - 1) 0 = 255 := by
              have : decide (((y.getD (n - 1) 0).toNat : Int) = 255) = true := by rw [show decide (0 < (n : Int)) = true from decide_eq_true (by omega)] at h40; exact h40
              exact UInt8.toNat_inj.1 (by have h9 := dtrue this; have : (255 : UInt8).toNat = 255 := rfl; omega)
            exact trim_snoc (by omega) h255
          · (dsimp only; omega)
        · skip
          have ht : trim255 y = y.take n := by
            rw [h2]
            refine trim_stop fun hn => ?_
            have h0 : 0 < n := by rcases Nat.eq_zero_or_pos n with h | h; (subst h; simp at hn); exact h
            rw [show decide (0 < (n : Int)) = true from decide_eq_true (by omega)] at h40
            have h3 : decide (((y.getD (n - 1) 0).toNat : Int) = 255) = false := h40
            refine ⟨y.getD (n - 1) 0, ?_, fun he => ?_⟩
            · rw [List.getLast?_take]; simp [show n ≠ 0 by omega, show n - 1 < y.length by omega]
            · rw [he] at h3; exact absurd h3 (by decide)
          have hln : (y.take n).length = n := by rw [List.length_take]; omega
          refine c_exit ?_
          refine x_then ?_
          refine x_then ?_
          refine x_hit ?_
          refine n_then ?_
          refine c_seq ?_
          refine c_seq ?_
          refine wp_reg (by decide +kernel) ?_
          refine l_v (v_move (t := .slice _ _ _) rfl) ?_
          refine l_v (v_len (et := 5) (by kernel_rfl) rfl) ?_
          refine l_v (v_eql rfl rfl) ?_
          refine l_nil ?_
          refine n_then ?_
          refine c_cond rfl rfl (fun h48 => ?_) (fun h48 => ?_)
          · skip
            refine c_seq ?_
            refine wp_reg (by decide +kernel) ?_
            refine l_v (v_assign rfl) ?_
            refine l_nil ?_
            refine n_then ?_
            refine c_ret ?_
            refine r_then ?_
            refine r_blk ?_
            refine r_then ?_
            refine ret1v rfl (by decide) (show _ = (Value.bool _) from rfl) ?_
            refine ⟨?_, E⟩
            have hn : n = 0 := by have := dtrue h48; omega
            subst hn
            rw [meetR, hfr, leastL, if_neg hx0, if_neg h24, ← hy, ht]; rfl
          · skip
            have hn : 0 < n := by have := dfalse h48; omega
            have HO10 := HO9.pre (m := n) (by omega)
            have hyl : y[n - 1]? = some (y.getD (n - 1) 0) := by simp [show n - 1 < y.length by omega]
            have zo_HO10 := fun (b : Nat) h => HO10.own_lt (b := b) h
            refine c_skip ?_
            refine n_then ?_
            refine wp_reg (by decide +kernel) ?_
            refine l_v (v_move (t := .slice _ _ _) rfl) ?_
            refine l_v (v_move (t := .slice _ _ _) rfl) ?_
            refine l_v (v_len (et := 5) (by kernel_rfl) rfl) ?_
            refine l_v (v_sub rfl rfl (by first | exact wr_i64 (by omega) (by omega) | rfl)) ?_
            refine l_v (v_indexAddr (et := 5) (sz := 1) (k := n - 1) (by kernel_rfl) (by kernel_rfl) rfl rfl (by first | rfl | omega) (by omega)) ?_
            refine l_v (v_load (by kernel_rfl) rfl (HO10.cell1 (k := n - 1) (xx := y.getD (n - 1) 0) (by rw [List.getElem?_take_of_lt (by omega)]; exact hyl))) ?_
            refine l_v (v_add (t := (((y.getD (n - 1) 0 + 1 : UInt8).toNat : Nat) : Int)) rfl rfl ((by (have h1 : (y.getD (n - 1) 0 + 1 : UInt8).toNat = ((y.getD (n - 1) 0).toNat + 1) % 256 := (by rw [UInt8.toNat_add]; rfl)); rw [wr_u8m, h1]; omega))) ?_
            refine l_v (v_indexAddr (et := 5) (sz := 1) (k := n - 1) (by kernel_rfl) (by kernel_rfl) rfl rfl (by first | rfl | omega) (by omega)) ?_
            refine l_to (to_storeO (k := n - 1) (off := 0) rfl ((by rw [add_lit, Nat.zero_add, Nat.add_zero]; rfl)) (by decide) (show _ = (Value.int _ _) from rfl) rfl (by kernel_rfl) HO10 (by rw [List.getElem?_take_of_lt (by omega)]; exact hyl) (fun cs h => show tU8.rep _ _ _ (y.getD (n - 1) 0 + 1) from by have h' : cs = [.int .u8 (y.getD (n - 1) 0).toNat] := h; subst h'; rfl) ?_)
            rintro w11 HO11 k11 z11
            have zs_k11 := k11.size
            replace E := E.step k11 (by intro i hi he; (try dsimp only [NoK] at hi he ⊢); first | exact he.elim | omega | exact he)
            replace HSf := HSf.keep k11 (by intro i _ hi he; (try dsimp only [NoK, AllB] at hi he); first | exact hi.elim | exact he.elim | omega | (rcases hi with hi | hi <;> omega) | (rcases he with he | he <;> omega))
            replace HSg := HSg.keep k11 (by intro i _ hi he; (try dsimp only [NoK, AllB] at hi he); first | exact hi.elim | exact he.elim | omega | (rcases hi with hi | hi <;> omega) | (rcases he with he | he <;> omega))
            replace HG1 := HG1.keep k11 (by intro i _ hi he; (try dsimp only [NoK, AllB] at hi he); first | exact hi.elim | exact he.elim | omega | (rcases hi with hi | hi <;> omega) | (rcases he with he | he <;> omega))
            replace HG2 := HG2.keep k11 (by intro i _ hi he; (try dsimp only [NoK, AllB] at hi he); first | exact hi.elim | exact he.elim | omega | (rcases hi with hi | hi <;> omega) | (rcases he with he | he <;> omega))
            replace HB101 := HB101.keep k11 (by intro h; (try dsimp only at h); first | omega)
            replace HB102 := HB102.keep k11 (by intro h; (try dsimp only at h); first | omega)
            have zo_HO11 := fun (b : Nat) h => HO11.own_lt (b := b) h
            refine l_nil ?_
            refine n_blk ?_
            refine n_then ?_
            refine c_seq ?_
            refine wp_reg (by decide +kernel) ?_
            refine l_v (v_loadA (by kernel_rfl) rfl (by first | exact HB102.pv | exact HB101.pv | assumption) rfl) ?_
            refine l_v (v_move (t := .slice _ _ _) rfl) ?_
            refine l_to (to_f2 (by kernel_rfl) (show _ = (Value.agg _) from rfl) (show _ = (Value.slice _ _ _) from rfl) (CallsR.mono (Has_c HG1 HO11.view) ?_))
            rintro _ w114 ⟨rfl, e114⟩
            have zs_e114 := e114.size
            replace E := E.trans (Ext.keep e114)
            replace HSf := HSf.ext e114
            replace HSg := HSg.ext e114
            replace HG1 := HG1.ext e114
            replace HG2 := HG2.ext e114
            replace HB101 := HB101.ext e114
            replace HB102 := HB102.ext e114
            replace HO11 := HO11.ext e114
            refine l_v (v_move (t := .bool _) rfl) ?_
            refine l_g1 rfl rfl (fun hG => v_loadA (by kernel_rfl) rfl (by first | exact HB102.pv | exact HB101.pv | assumption) rfl) ?_
            refine l_g1 rfl rfl (fun hG => v_move (t := .slice _ _ _) rfl) ?_
            refine l_g1f rfl rfl (fun hG => to_f2 (by kernel_rfl) (gd hG rfl) (gd hG rfl) (Has_c HG2 HO11.view)) ?_
            rintro w115 e115
            have zs_e115 := e115.size
            replace E := E.trans (Ext.keep e115)
            replace HSf := HSf.ext e115
            replace HSg := HSg.ext e115
            replace HG1 := HG1.ext e115
            replace HG2 := HG2.ext e115
            replace HB101 := HB101.ext e115
            replace HB102 := HB102.ext e115
            replace HO11 := HO11.ext e115
            refine l_v (v_and rfl rfl) ?_
            refine l_v (v_assign (t := .bool _) rfl) ?_
            refine l_nil ?_
            refine n_then ?_
            refine c_ret ?_
            refine ret1v rfl (by decide) (show _ = (Value.bool _) from rfl) ?_
            refine ⟨?_, E⟩
            have hne : ¬ trim255 y = [] := by rw [ht]; intro h; rw [h] at hln; simp at hln; omega
            have hbm : (y.take n).set (n - 1) (y.getD (n - 1) 0 + 1) = bump (trim255 y) := by rw [ht]; exact set_last hln hn (by rw [List.getElem?_take_of_lt (by omega)]; exact hyl)
            rw [meetR, hfr, leastL, if_neg hx0, if_neg h24, ← hy]
            simp only [if_neg hne]
            rw [← hbm]
            all_goals rfl
      · skip
        have h24 : (a.1).length ≤ 24 := by have := dfalse hl2; omega
        refine c_skip ?_
        refine n_blk ?_
        refine n_then ?_
        refine c_seq ?_
        refine wp_reg (by decide +kernel) ?_
        refine l_v (v_loadA (by kernel_rfl) rfl (by first | exact HB102.pv | exact HB101.pv | assumption) rfl) ?_
        refine l_v (v_move (t := .slice _ _ _) rfl) ?_
        refine l_to (to_f2 (by kernel_rfl) (show _ = (Value.agg _) from rfl) (show _ = (Value.slice _ _ _) from rfl) (CallsR.mono (Has_c HG1 HO7.view) ?_))
        rintro _ w116 ⟨rfl, e116⟩
        have zs_e116 := e116.size
        replace E := E.trans (Ext.keep e116)
        replace HSf := HSf.ext e116
        replace HSg := HSg.ext e116
        replace HG1 := HG1.ext e116
        replace HG2 := HG2.ext e116
        replace HB101 := HB101.ext e116
        replace HB102 := HB102.ext e116
        replace HO7 := HO7.ext e116
        refine l_v (v_move (t := .bool _) rfl) ?_
        refine l_g1 rfl rfl (fun hG => v_loadA (by kernel_rfl) rfl (by first | exact HB102.pv | exact HB101.pv | assumption) rfl) ?_
        refine l_g1 rfl rfl (fun hG => v_move (t := .slice _ _ _) rfl) ?_
        refine l_g1f rfl rfl (fun hG => to_f2 (by kernel_rfl) (gd hG rfl) (gd hG rfl) (Has_c HG2 HO7.view)) ?_
        rintro w117 e117
        have zs_e117 := e117.size
        replace E := E.trans (Ext.keep e117)
        replace HSf := HSf.ext e117
        replace HSg := HSg.ext e117
        replace HG1 := HG1.ext e117
        replace HG2 := HG2.ext e117
        replace HB101 := HB101.ext e117
        replace HB102 := HB102.ext e117
        replace HO7 := HO7.ext e117
        refine l_v (v_and rfl rfl) ?_
        refine l_v (v_assign (t := .bool _) rfl) ?_
        refine l_nil ?_
        refine n_then ?_
        refine c_ret ?_
        refine ret1v rfl (by decide) (show _ = (Value.bool _) from rfl) ?_
        refine ⟨?_, E⟩
        rw [meetR, hfr, leastL, if_neg hx0, if_pos h24]
        all_goals rfl
end Go.Proofs.Ytkaangdfpjkjpaa
