/- A part of the proof: steps and lemmas for the walks through the given program. -/
import Derived.Test.YtogafjlbpodgjaaGreatC27
import Derived.Test.YtogafjlbpodgjaaGreatCe
namespace Go.Proofs.YtogafjlbpodgjaaGreat
open Go.Vc
set_option linter.unusedVariables false
set_option linter.unusedSimpArgs false
set_option maxRecDepth 100000

theorem refCMay_b {w : World} {F : Nat → Prop} {v : Value} {a : CmV} {b : Bool} (HG1 : AgV tCm w F v a) (hb : mayCm a = b) : CallsR Tryz.prog 8 #[v] w (fun o w' => o = .bool b ∧ Ext w w') := by subst hb; exact refCMay_c HG1
set_option maxHeartbeats 4000000 in
theorem CommandWrites_c {w : World} {F : Nat → Prop} {v : Value} {c : CmV} (HG1 : AgV tCm w F v c) : CallsR Tryz.prog 3 #[v] w (fun o w' => o = .bool true ∧ Ext w w') := by
 obtain ⟨k, rq, mv, en, an, key, g⟩ := c
 obtain ⟨a1, c1, a2, c2, a3, c3, a4, c4, a5, c5, a6, c6, a7, c7, a8, c8, a9, c9, rfl, h1⟩ := HG1.cm
 refine enter 41 Tryz.func3 rfl rfl (by simp) ?_
 refine c_seq ?_
 have E := Keep.refl (K := NoK) w
 replace HG1 := HG1.all
 refine wp_reg zd ?_
 refine l_to (to_box (zvA rfl) ?_)
 rintro b3 w3 zb3 HB3 e3 z3
 have zs_e3 := e3.size
 replace E := E.trans (Ext.keep e3)
 replace HG1 := HG1.ext e3
 try simp only [Value.cells] at HB3
 refine l_v (v_assign rfl) ?_
 refine l_nil ?_
 refine n_then ?_
 refine c_seq ?_
 refine c_seq ?_
 refine wp_reg zd ?_
 refine l_v (v_loadA zk rfl (by first | exact HB3.pv | assumption) rfl) ?_
 refine l_to (to_f2 zk (zvA rfl) (zvI rfl) (CallsR.mono (Long_c (m := 60000) HG1 (by decide) (by decide)) ?_))
 rintro _ w101 ⟨rfl, e101⟩
 have zs_e101 := e101.size
 replace E := E.trans (Ext.keep e101)
 replace HG1 := HG1.ext e101
 replace HB3 := HB3.ext e101
 refine l_nil ?_
 refine n_then ?_
 refine c_cond rfl rfl (fun hc => ?_) (fun hc => ?_)
 ·
  refine c_seq ?_
  refine wp_reg zd ?_
  refine l_to (to_f0 zk (CallsR.mono (known_c) ?_))
  rintro _ w102 ⟨rfl, e102⟩
  have zs_e102 := e102.size
  replace E := E.trans (Ext.keep e102)
  replace HG1 := HG1.ext e102
  replace HB3 := HB3.ext e102
  refine l_v (v_assign (t := .bool _) rfl) ?_
  refine l_nil ?_
  refine n_then ?_
  refine c_ret ?_
  refine r_then ?_
  refine ret1v rfl (by decide) (zvB rfl) ?_
  exact ⟨rfl, E⟩
 ·
  by_cases hm : mayCm (k, rq, mv, en, an, key, g) = true
  ·
   refine c_skip ?_
   refine n_then ?_
   refine c_seq ?_
   refine wp_reg zd ?_
   refine l_v (v_loadA zk rfl (by first | exact HB3.pv | assumption) rfl) ?_
   refine l_to (to_f1 zk (zvA rfl) (CallsR.mono (CBytes_t HG1 hm) ?_))
   rintro _ w10 ⟨⟨q10, d10, rfl, HS10⟩, e10⟩
   have zs_e10 := e10.size
   replace E := E.trans (Ext.keep e10)
   replace HG1 := HG1.ext e10
   replace HB3 := HB3.ext e10
   refine l_v (v_move (t := .tuple _) rfl) ?_
   refine l_v (v_extract (t := .slice _ _ _) rfl rfl) ?_
   refine l_v (v_extract (t := .int _ _) rfl rfl) ?_
   refine l_v (v_assign (t := .slice _ _ _) rfl) ?_
   refine l_v (v_assign (t := .int _ _) rfl) ?_
   refine l_nil ?_
   refine n_then ?_
   refine c_seq ?_
   refine c_seq ?_
   refine wp_reg zd ?_
   refine l_v (v_loadA zk rfl (by first | exact HB3.pv | assumption) rfl) ?_
   refine l_to (to_f1 zk (zvA rfl) (CallsR.mono (refCMay_b HG1 hm) ?_))
   rintro _ w103 ⟨rfl, e103⟩
   have zs_e103 := e103.size
   replace E := E.trans (Ext.keep e103)
   replace HG1 := HG1.ext e103
   replace HB3 := HB3.ext e103
   replace HS10 := HS10.ext e103
   refine l_v (v_not rfl) ?_
   refine l_nil ?_
   refine n_then ?_
   refine c_cond rfl rfl (fun hq => ?_) (fun hq => ?_)
   ·
    cases hq
   ·
    refine c_skip ?_
    refine n_then ?_
    refine c_seq ?_
    refine wp_any zk ?_
    have e104 : Ext w103 { w103 with drawn := w103.drawn + 1 } := Keep.drawn _ _
    generalize hw104 : ({ w103 with drawn := w103.drawn + 1 } : World) = w104 at e104 ⊢
    clear hw104
    have zs_e104 := e104.size
    replace E := E.trans (Ext.keep e104)
    replace HG1 := HG1.ext e104
    replace HB3 := HB3.ext e104
    replace HS10 := HS10.ext e104
    refine r_cut 5 rfl zd zd zd ?_
    refine wp_regdW (NoK) zd zd ?_
    refine rt_v (fun vals w hR hd => v_move (t := .slice _ _ _) rfl) ?_
    refine rt_v (fun vals w hR hd => v_b2s (et := 5) zk zk zk (hd 0 rfl) (by first | exact (HS10.ext hR) | assumption)) ?_
    refine rt_v (fun vals w hR hd => v_loadA zk rfl (by first | exact (HB3.ext hR).pv | assumption) rfl) ?_
    refine rt_to (fun v W => Bv W AllB v (cmW (k, rq, mv, en, an, key, g))) (fun v w w' h k => h.ext k) (fun vals w hR hd => to_f1 zk (hd 2 rfl) (CallsR.mono (refCBytes_c (HG1.ext hR) hm) fun v w1 ⟨_, h, e⟩ => ⟨e, h.allB⟩)) ?_
    refine rt_v (fun vals w hR hd => v_b2s (et := 5) zk zk zk rfl (show Bv _ AllB _ (cmW (k, rq, mv, en, an, key, g)) from hd 3 rfl)) ?_
    refine rt_nil (fun w105 e105 => ?_)
    rintro _ rfl _ rfl _ rfl v30 hs30 _ rfl
    have zs_e105 := e105.size
    replace E := E.trans (Ext.keep e105)
    replace HG1 := HG1.ext e105
    replace HB3 := HB3.ext e105
    replace HS10 := HS10.ext e105
    refine fin_nil ?_
    refine n_then ?_
    refine wp_regdW (NoK) zd zd ?_
    refine rt_v (fun vals w hR hd => v_seq rfl rfl) ?_
    refine rt_v (fun vals w hR hd => v_move (t := .bool _) (hd 0 rfl)) ?_
    refine rt_g1 rfl (fun vals w hd => hd 1 rfl) (fun vals w hR hd hG => v_move (t := .int _ _) rfl) ?_
    refine rt_g1f rfl (fun vals w hd => hd 1 rfl) (fun vals w hR hd hG => to_f1 zk (gd hG (hd 2 rfl)) (num_c)) ?_
    refine rt_g1 rfl (fun vals w hd => hd 1 rfl) (fun vals w hR hd hG => v_eql (gd hG (hd 3 rfl)) rfl) ?_
    refine rt_v (fun vals w hR hd => v_and (hd 1 rfl) (hd 4 rfl)) ?_
    refine rt_v (fun vals w hR hd => v_move (t := .bool _) (hd 5 rfl)) ?_
    refine rt_g1f rfl (fun vals w hd => hd 6 rfl) (fun vals w hR hd hG => to_f0 zk (known_c)) ?_
    refine rt_v (fun vals w hR hd => v_and (hd 6 rfl) (hd 7 rfl)) ?_
    refine rt_v (fun vals w hR hd => v_assign (t := .bool _) (hd 8 rfl)) ?_
    refine rt_nil (fun w106 e106 => ?_)
    rintro _ rfl _ rfl _ rfl _ rfl _ rfl _ rfl _ rfl _ rfl _ rfl _ rfl
    have zs_e106 := e106.size
    replace E := E.trans (Ext.keep e106)
    replace HG1 := HG1.ext e106
    replace HB3 := HB3.ext e106
    replace HS10 := HS10.ext e106
    refine fin_nil ?_
    refine n_then ?_
    refine c_ret ?_
    refine ret1v rfl (by decide) (zvB rfl) ?_
    refine ⟨?_, E⟩
    simp
  ·
   refine c_skip ?_
   refine n_then ?_
   refine c_seq ?_
   have hm : mayCm (k, rq, mv, en, an, key, g) = false := by simpa using hm
   refine wp_reg zd ?_
   refine l_v (v_loadA zk rfl (by first | exact HB3.pv | assumption) rfl) ?_
   refine l_to (to_f1 zk (zvA rfl) (CallsR.mono (CBytes_f HG1 hm) ?_))
   rintro _ w107 ⟨rfl, e107⟩
   have zs_e107 := e107.size
   replace E := E.trans (Ext.keep e107)
   replace HG1 := HG1.ext e107
   replace HB3 := HB3.ext e107
   refine l_v (v_move (t := .tuple _) rfl) ?_
   refine l_v (v_extract (t := .slice _ _ _) rfl rfl) ?_
   refine l_v (v_extract (t := .int _ _) rfl rfl) ?_
   refine l_v (v_assign (t := .slice _ _ _) rfl) ?_
   refine l_v (v_assign (t := .int _ _) rfl) ?_
   refine l_nil ?_
   refine n_then ?_
   refine c_seq ?_
   refine c_seq ?_
   refine wp_reg zd ?_
   refine l_v (v_loadA zk rfl (by first | exact HB3.pv | assumption) rfl) ?_
   refine l_to (to_f1 zk (zvA rfl) (CallsR.mono (refCMay_b HG1 hm) ?_))
   rintro _ w108 ⟨rfl, e108⟩
   have zs_e108 := e108.size
   replace E := E.trans (Ext.keep e108)
   replace HG1 := HG1.ext e108
   replace HB3 := HB3.ext e108
   refine l_v (v_not rfl) ?_
   refine l_nil ?_
   refine n_then ?_
   refine c_cond rfl rfl (fun hq => ?_) (fun hq => ?_)
   ·
    refine c_seq ?_
    refine wp_reg zd ?_
    refine l_v (v_move (t := .slice _ _ _) rfl) ?_
    refine l_v (v_len (et := 5) zk rfl) ?_
    refine l_v (v_eql rfl rfl) ?_
    refine l_v (v_move (t := .bool _) rfl) ?_
    refine l_g1 rfl rfl (fun hG => v_move (t := .int _ _) rfl) ?_
    refine l_g1f rfl rfl (fun hG => to_f1 zk (gd hG rfl) (num_c)) ?_
    rintro w109 e109
    have zs_e109 := e109.size
    replace E := E.trans (Ext.keep e109)
    replace HG1 := HG1.ext e109
    replace HB3 := HB3.ext e109
    refine l_g1 rfl rfl (fun hG => v_eql (gd hG rfl) rfl) ?_
    refine l_v (v_and rfl rfl) ?_
    refine l_v (v_move (t := .bool _) rfl) ?_
    refine l_g1f rfl rfl (fun hG => to_f0 zk (known_c)) ?_
    rintro w110 e110
    have zs_e110 := e110.size
    replace E := E.trans (Ext.keep e110)
    replace HG1 := HG1.ext e110
    replace HB3 := HB3.ext e110
    refine l_v (v_and rfl rfl) ?_
    refine l_v (v_assign (t := .bool _) rfl) ?_
    refine l_nil ?_
    refine n_then ?_
    refine c_ret ?_
    refine r_then ?_
    refine ret1v rfl (by decide) (zvB rfl) ?_
    exact ⟨rfl, E⟩
   ·
    cases hq
end Go.Proofs.YtogafjlbpodgjaaGreat
