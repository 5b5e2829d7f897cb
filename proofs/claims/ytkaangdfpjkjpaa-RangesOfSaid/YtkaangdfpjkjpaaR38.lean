/- A part of the proof: steps and lemmas for the walks through the given program. -/
import Derived.Test.YtkaangdfpjkjpaaR37
import Derived.Test.YtkaangdfpjkjpaaGt
namespace Go.Proofs.Ytkaangdfpjkjpaa
open Go.Vc
set_option linter.unusedVariables false
set_option linter.unusedSimpArgs false
set_option maxRecDepth 100000

theorem RangesOf_c {w : World} {F : Nat → Prop} {v : Value} {e g mo : Int} {rs : List RgV} (HG1 : AgV tMp w F v (e, rs)) : CallsR Try.prog 12 #[v, .int .i64 g, .int .i64 mo] w (fun o w' => o = .bool true ∧ Ext w w') := by
  obtain ⟨a, c, rfl, HSr, he⟩ := HG1.mp
  simp only at HSr he
  refine enter 22 Try.func12 rfl rfl (by simp) ?_
  refine c_seq ?_
  have E := Keep.refl (K := NoK) w
  replace HG1 := HG1.all
  replace HSr := HSr.all
  refine wp_reg (by decide +kernel) ?_
  refine l_to (to_box (show _ = (Value.agg _) from rfl) ?_)
  rintro b2 w2 zb2 HB2 e2 z2
  have zs_e2 := e2.size
  replace E := E.trans (Ext.keep e2)
  replace HG1 := HG1.ext e2
  replace HSr := HSr.ext e2
  try simp only [Value.cells] at HB2
  refine l_v (v_assign rfl) ?_
  refine l_nil ?_
  refine n_then ?_
  refine c_seq ?_
  refine c_seq ?_
  refine wp_reg (by decide +kernel) ?_
  refine l_v (v_loadA (by kernel_rfl) rfl (by first | exact HB2.pv | assumption) rfl) ?_
  refine l_to (to_f1 (by kernel_rfl) (show _ = (Value.agg _) from rfl) (CallsR.mono (much_c HG1) ?_))
  rintro _ w101 ⟨rfl, e101⟩
  have zs_e101 := e101.size
  replace E := E.trans (Ext.keep e101)
  replace HG1 := HG1.ext e101
  replace HSr := HSr.ext e101
  replace HB2 := HB2.ext e101
  refine l_nil ?_
  refine n_then ?_
  refine c_cond rfl rfl (fun hc => ?_) (fun hc => ?_)
  · skip
    refine c_seq ?_
    refine wp_reg (by decide +kernel) ?_
    refine l_to (to_f0 (by kernel_rfl) (CallsR.mono (known_c) ?_))
    rintro _ w102 ⟨rfl, e102⟩
    have zs_e102 := e102.size
    replace E := E.trans (Ext.keep e102)
    replace HG1 := HG1.ext e102
    replace HSr := HSr.ext e102
    replace HB2 := HB2.ext e102
    refine l_v (v_assign (t := .bool _) rfl) ?_
    refine l_nil ?_
    refine n_then ?_
    refine c_ret ?_
    refine r_then ?_
    refine ret1v rfl (by decide) (show _ = (Value.bool _) from rfl) ?_
    exact ⟨rfl, E⟩
  · skip
    refine c_skip ?_
    refine n_then ?_
    refine c_seq ?_
    refine wp_reg (by decide +kernel) ?_
    refine l_v (v_loadA (by kernel_rfl) rfl (by first | exact HB2.pv | assumption) rfl) ?_
    refine l_v (v_move (t := .int _ _) rfl) ?_
    refine l_v (v_move (t := .int _ _) rfl) ?_
    refine l_to (to_f3 (by kernel_rfl) (show _ = (Value.agg _) from rfl) (show _ = (Value.int _ _) from rfl) (show _ = (Value.int _ _) from rfl) (CallsR.mono (once_c HG1) ?_))
    rintro _ w103 ⟨rfl, e103⟩
    have zs_e103 := e103.size
    replace E := E.trans (Ext.keep e103)
    replace HG1 := HG1.ext e103
    replace HSr := HSr.ext e103
    replace HB2 := HB2.ext e103
    refine l_v (v_move (t := .bool _) rfl) ?_
    refine l_g1 rfl rfl (fun hG => v_loadA (by kernel_rfl) rfl (by first | exact HB2.pv | assumption) rfl) ?_
    refine l_g1 rfl rfl (fun hG => v_move (t := .int _ _) rfl) ?_
    refine l_g1f rfl rfl (fun hG => to_f3 (by kernel_rfl) (gd hG rfl) (gd hG rfl) (show _ = (Value.int _ _) from rfl) (once_c HG1)) ?_
    rintro w104 e104
    have zs_e104 := e104.size
    replace E := E.trans (Ext.keep e104)
    replace HG1 := HG1.ext e104
    replace HSr := HSr.ext e104
    replace HB2 := HB2.ext e104
    refine l_v (v_and rfl rfl) ?_
    refine l_v (v_move (t := .bool _) rfl) ?_
    refine l_g1f rfl rfl (fun hG => to_f0 (by kernel_rfl) (known_c)) ?_
    rintro w105 e105
    have zs_e105 := e105.size
    replace E := E.trans (Ext.keep e105)
    replace HG1 := HG1.ext e105
    replace HSr := HSr.ext e105
    replace HB2 := HB2.ext e105
    refine l_v (v_and rfl rfl) ?_
    refine l_v (v_assign (t := .bool _) rfl) ?_
    refine l_nil ?_
    refine n_then ?_
    refine c_ret ?_
    refine ret1v rfl (by decide) (show _ = (Value.bool _) from rfl) ?_
    exact ⟨rfl, E⟩
end Go.Proofs.Ytkaangdfpjkjpaa
