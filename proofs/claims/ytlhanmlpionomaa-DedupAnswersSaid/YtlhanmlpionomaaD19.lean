/- A part of the proof: steps and lemmas for the walks through the given program. -/
import Derived.Test.YtlhanmlpionomaaDf
namespace Go.Proofs.Ytlhanmlpionomaa
open Go.Vc
set_option linter.unusedVariables false
set_option linter.unusedSimpArgs false
set_option maxRecDepth 100000

theorem DedupAnswers_c {w : World} {F G : Nat → Prop} {v u : Value} {a b : AnV} (HG1 : AgV tAn w F v a) (HG2 : AgV tAn w G u b) : CallsR Try.prog 7 #[v, u] w (fun o w' => o = .bool true ∧ Ext w w') := by
  obtain ⟨a1, c1, a2, c2, rfl, h1⟩ := HG1.an
  obtain ⟨a3, c3, a4, c4, rfl, h2⟩ := HG2.an
  refine enter 34 Try.func7 rfl rfl (by simp) ?_
  refine c_seq ?_
  have E := Keep.refl (K := NoK) w
  replace HG1 := HG1.all
  replace HG2 := HG2.all
  refine wp_reg (by decide +kernel) ?_
  refine l_to (to_box (show _ = (Value.agg _) from rfl) ?_)
  rintro b2 w2 zb2 HB2 e2 z2
  have zs_e2 := e2.size
  replace E := E.trans (Ext.keep e2)
  replace HG1 := HG1.ext e2
  replace HG2 := HG2.ext e2
  try simp only [Value.cells] at HB2
  refine l_to (to_box (show _ = (Value.agg _) from rfl) ?_)
  rintro b3 w3 zb3 HB3 e3 z3
  have zs_e3 := e3.size
  replace E := E.trans (Ext.keep e3)
  replace HG1 := HG1.ext e3
  replace HG2 := HG2.ext e3
  replace HB2 := HB2.ext e3
  try simp only [Value.cells] at HB3
  refine l_v (v_assign rfl) ?_
  refine l_nil ?_
  refine n_then ?_
  refine c_seq ?_
  refine c_seq ?_
  refine wp_reg (by decide +kernel) ?_
  refine l_v (v_loadA (by kernel_rfl) rfl (by first | exact HB3.pv | exact HB2.pv | assumption) rfl) ?_
  refine l_to (to_f2 (by kernel_rfl) (show _ = (Value.agg _) from rfl) (show _ = (Value.int _ _) from rfl) (CallsR.mono (Much_c HG1 (by decide)) ?_))
  rintro _ w101 ⟨rfl, e101⟩
  have zs_e101 := e101.size
  replace E := E.trans (Ext.keep e101)
  replace HG1 := HG1.ext e101
  replace HG2 := HG2.ext e101
  replace HB2 := HB2.ext e101
  replace HB3 := HB3.ext e101
  refine l_v (v_move (t := .bool _) rfl) ?_
  refine l_g1 rfl rfl (fun hG => v_loadA (by kernel_rfl) rfl (by first | exact HB3.pv | exact HB2.pv | assumption) rfl) ?_
  refine l_g1f rfl rfl (fun hG => to_f2 (by kernel_rfl) (gd hG rfl) (show _ = (Value.int _ _) from rfl) (Much_c HG2 (by decide))) ?_
  rintro w102 e102
  have zs_e102 := e102.size
  replace E := E.trans (Ext.keep e102)
  replace HG1 := HG1.ext e102
  replace HG2 := HG2.ext e102
  replace HB2 := HB2.ext e102
  replace HB3 := HB3.ext e102
  refine l_v (v_or rfl rfl) ?_
  refine l_nil ?_
  refine n_then ?_
  refine c_cond rfl rfl (fun hc => ?_) (fun hc => ?_)
  · skip
    refine c_seq ?_
    refine wp_reg (by decide +kernel) ?_
    refine l_to (to_f0 (by kernel_rfl) (CallsR.mono (known_c) ?_))
    rintro _ w103 ⟨rfl, e103⟩
    have zs_e103 := e103.size
    replace E := E.trans (Ext.keep e103)
    replace HG1 := HG1.ext e103
    replace HG2 := HG2.ext e103
    replace HB2 := HB2.ext e103
    replace HB3 := HB3.ext e103
    refine l_v (v_assign (t := .bool _) rfl) ?_
    refine l_nil ?_
    refine n_then ?_
    refine c_ret ?_
    refine r_then ?_
    refine ret1v rfl (by decide) (show _ = (Value.bool _) from rfl) ?_
    exact ⟨rfl, E⟩
  · skip
    refine c_skip ?_
    refine n_then ?_
    refine c_seq ?_
    refine wp_regd (NoK) (by kernel_rfl) (by decide +kernel) (by decide +kernel) ?_
    refine rt_v (fun vals w hR hd => v_loadA (by kernel_rfl) rfl (by first | exact (HB3.ext hR).pv | exact (HB2.ext hR).pv | assumption) rfl) ?_
    refine rt_vf (fun vals w hR hd => to_f1 (by kernel_rfl) (hd 0 rfl) (MayAnswer_c (HG1.ext hR))) ?_
    refine rt_v (fun vals w hR hd => v_loadA (by kernel_rfl) rfl (by first | exact (HB3.ext hR).pv | exact (HB2.ext hR).pv | assumption) rfl) ?_
    refine rt_vf (fun vals w hR hd => to_f1 (by kernel_rfl) (hd 2 rfl) (refMayAnswer_c (HG1.ext hR))) ?_
    refine rt_v (fun vals w hR hd => v_beql (by kernel_rfl) (hd 1 rfl) (hd 3 rfl)) ?_
    refine rt_v (fun vals w hR hd => v_move (t := .bool _) (hd 4 rfl)) ?_
    refine rt_g1 rfl (fun vals w hd => hd 5 rfl) (fun vals w hR hd hG => v_loadA (by kernel_rfl) rfl (by first | exact (HB3.ext hR).pv | exact (HB2.ext hR).pv | assumption) rfl) ?_
    refine rt_g1 rfl (fun vals w hd => hd 5 rfl) (fun vals w hR hd hG => v_loadA (by kernel_rfl) rfl (by first | exact (HB3.ext hR).pv | exact (HB2.ext hR).pv | assumption) rfl) ?_
    refine rt_g1f rfl (fun vals w hd => hd 5 rfl) (fun vals w hR hd hG => to_f2 (by kernel_rfl) (gd hG (hd 6 rfl)) (gd hG (hd 7 rfl)) (SameAnswer_c (HG1.ext hR) (HG2.ext hR))) ?_
    refine rt_g1 rfl (fun vals w hd => hd 5 rfl) (fun vals w hR hd hG => v_loadA (by kernel_rfl) rfl (by first | exact (HB3.ext hR).pv | exact (HB2.ext hR).pv | assumption) rfl) ?_
    refine rt_g1 rfl (fun vals w hd => hd 5 rfl) (fun vals w hR hd hG => v_loadA (by kernel_rfl) rfl (by first | exact (HB3.ext hR).pv | exact (HB2.ext hR).pv | assumption) rfl) ?_
    refine rt_g1f rfl (fun vals w hd => hd 5 rfl) (fun vals w hR hd hG => to_f2 (by kernel_rfl) (gd hG (hd 9 rfl)) (gd hG (hd 10 rfl)) (refSameAnswer_c (HG1.ext hR) (HG2.ext hR))) ?_
    refine rt_g1 rfl (fun vals w hd => hd 5 rfl) (fun vals w hR hd hG => v_beql (by kernel_rfl) (gd hG (hd 8 rfl)) (gd hG (hd 11 rfl))) ?_
    refine rt_v (fun vals w hR hd => v_and (hd 5 rfl) (hd 12 rfl)) ?_
    refine rt_v (fun vals w hR hd => v_move (t := .bool _) (hd 13 rfl)) ?_
    refine rt_g1 rfl (fun vals w hd => hd 14 rfl) (fun vals w hR hd hG => v_loadA (by kernel_rfl) rfl (by first | exact (HB3.ext hR).pv | exact (HB2.ext hR).pv | assumption) rfl) ?_
    refine rt_g1 rfl (fun vals w hd => hd 14 rfl) (fun vals w hR hd hG => v_loadA (by kernel_rfl) rfl (by first | exact (HB3.ext hR).pv | exact (HB2.ext hR).pv | assumption) rfl) ?_
    refine rt_g1f rfl (fun vals w hd => hd 14 rfl) (fun vals w hR hd hG => to_f2 (by kernel_rfl) (gd hG (hd 15 rfl)) (gd hG (hd 16 rfl)) (SameAnswer_c (HG1.ext hR) (HG1.ext hR))) ?_
    refine rt_v (fun vals w hR hd => v_and (hd 14 rfl) (hd 17 rfl)) ?_
    refine rt_v (fun vals w hR hd => v_move (t := .bool _) (hd 18 rfl)) ?_
    refine rt_g1f rfl (fun vals w hd => hd 19 rfl) (fun vals w hR hd hG => to_f0 (by kernel_rfl) (known_c)) ?_
    refine rt_v (fun vals w hR hd => v_and (hd 19 rfl) (hd 20 rfl)) ?_
    refine rt_v (fun vals w hR hd => v_assign (t := .bool _) (hd 21 rfl)) ?_
    refine rt_nil (fun w104 e104 => ?_)
    rintro _ rfl _ rfl _ rfl _ rfl _ rfl _ rfl _ rfl _ rfl _ rfl _ rfl _ rfl _ rfl _ rfl _ rfl _ rfl _ rfl _ rfl _ rfl _ rfl _ rfl _ rfl _ rfl _ rfl
    have zs_e104 := e104.size
    replace E := E.trans (Ext.keep e104)
    replace HG1 := HG1.ext e104
    replace HG2 := HG2.ext e104
    replace HB2 := HB2.ext e104
    replace HB3 := HB3.ext e104
    refine fin_nil ?_
    refine n_then ?_
    refine c_ret ?_
    refine ret1v rfl (by decide) (show _ = (Value.bool _) from rfl) ?_
    refine ⟨?_, E⟩
    simp
end Go.Proofs.Ytlhanmlpionomaa
