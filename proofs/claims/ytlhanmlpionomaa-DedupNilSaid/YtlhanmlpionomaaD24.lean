/- A part of the proof: steps and lemmas for the walks through the given program. -/
import Derived.Test.YtlhanmlpionomaaD23
namespace Go.Proofs.Ytlhanmlpionomaa
open Go.Vc
set_option linter.unusedVariables false
set_option linter.unusedSimpArgs false
set_option maxRecDepth 100000

set_option maxHeartbeats 8000000 in
theorem DedupCopies_c {w : World} {F G : Nat → Prop} {v u : Value} {l l2 : List DsV} (HS1 : SlV tDs w F v l) (HS2 : SlV tDs w G u l2) : CallsR Try.prog 5 #[v, u] w (fun o w' => o = .bool true ∧ Ext w w') := by
  obtain ⟨a0, c0, rfl⟩ := HS1.shape
  obtain ⟨a1, c1, rfl⟩ := HS2.shape
  have hmx := HS2.len_max
  obtain ⟨n0, hn0⟩ : ∃ n, n = w.heap.size := ⟨_, rfl⟩
  refine enter 96 Try.func5 rfl rfl (by simp) ?_
  refine c_seq ?_
  have E := Keep.refl (K := NoK) w
  replace HS1 := HS1.all
  replace HS2 := HS2.all
  refine wp_reg (by decide +kernel) ?_
  refine l_v (v_assign rfl) ?_
  refine l_nil ?_
  refine n_then ?_
  refine c_seq ?_
  refine c_seq ?_
  refine wp_reg (by decide +kernel) ?_
  refine l_v (v_move (t := .slice _ _ _) rfl) ?_
  refine l_to (to_f1 (by kernel_rfl) (show _ = (Value.slice _ _ _) from rfl) (CallsR.mono (much_c HS1) ?_))
  rintro _ w101 ⟨rfl, e101⟩
  have zs_e101 := e101.size
  replace E := E.trans (Ext.keep e101)
  replace HS1 := HS1.ext e101
  replace HS2 := HS2.ext e101
  refine l_v (v_move (t := .bool _) rfl) ?_
  refine l_g1 rfl rfl (fun hG => v_move (t := .slice _ _ _) rfl) ?_
  refine l_g1f rfl rfl (fun hG => to_f1 (by kernel_rfl) (gd hG rfl) (much_c HS2)) ?_
  rintro w102 e102
  have zs_e102 := e102.size
  replace E := E.trans (Ext.keep e102)
  replace HS1 := HS1.ext e102
  replace HS2 := HS2.ext e102
  refine l_v (v_or rfl rfl) ?_
  refine l_nil ?_
  refine n_then ?_
  refine c_cond rfl rfl (fun hm => ?_) (fun hm => ?_)
  · skip
    refine c_seq ?_
    refine wp_reg (by decide +kernel) ?_
    refine l_to (to_f0 (by kernel_rfl) (CallsR.mono (known_c) ?_))
    rintro _ w103 ⟨rfl, e103⟩
    have zs_e103 := e103.size
    replace E := E.trans (Ext.keep e103)
    replace HS1 := HS1.ext e103
    replace HS2 := HS2.ext e103
    refine l_v (v_assign (t := .bool _) rfl) ?_
    refine l_nil ?_
    refine n_then ?_
    refine c_ret ?_
    refine r_then ?_
    refine ret1v rfl (by decide) (show _ = (Value.bool _) from rfl) ?_
    exact ⟨rfl, E⟩
  · skip
    have hm : muchS l = false ∧ muchS l2 = false := by simpa using hm
    refine c_skip ?_
    refine n_then ?_
    refine c_seq ?_
    refine wp_reg (by decide +kernel) ?_
    refine l_v (v_move (t := .slice _ _ _) rfl) ?_
    refine l_to (to_f1 (by kernel_rfl) (show _ = (Value.slice _ _ _) from rfl) (CallsR.mono (fill_c HS1 hm.1) ?_))
    rintro _ w24 ⟨⟨b, bm, br, cells, S, rfl, hT⟩, e24⟩
    have zs_e24 := e24.size
    replace E := E.trans (Ext.keep e24)
    replace HS1 := HS1.ext e24
    replace HS2 := HS2.ext e24
    obtain ⟨hok, d1, d2, d3, d4, d5, d6, HB5, HT5, HB6, HT6⟩ := hT
    replace HT5 := HT5.mono (F' := fun i => i < w24.heap.size) fun i hi h => hi
    replace HT6 := HT6.mono (F' := fun i => i < w24.heap.size) fun i hi h => hi
    have zb5 := HB5.lt
    have zm5 := HT5.lt
    have zb6 := HB6.lt
    refine l_v (v_move (t := .tuple _) rfl) ?_
    refine l_v (v_extract (t := .pointer _) rfl rfl) ?_
    refine l_v (v_extract (t := .pointer _) rfl rfl) ?_
    refine l_v (v_extract (t := .bool _) rfl rfl) ?_
    refine l_v (v_assign (t := .pointer _) rfl) ?_
    refine l_v (v_assign (t := .pointer _) rfl) ?_
    refine l_v (v_assign (t := .bool _) rfl) ?_
    refine l_nil ?_
    refine n_then ?_
    refine c_seq ?_
    refine wp_reg (by decide +kernel) ?_
    refine l_v (v_move (t := .slice _ _ _) rfl) ?_
    refine l_to (to_f1 (by kernel_rfl) (show _ = (Value.slice _ _ _) from rfl) (CallsR.mono (fill_c HS2 hm.2) ?_))
    rintro _ w28 ⟨⟨b2, bm2, br2, cells2, S2', rfl, hT⟩, e28⟩
    have zs_e28 := e28.size
    replace E := E.trans (Ext.keep e28)
    replace HS1 := HS1.ext e28
    replace HS2 := HS2.ext e28
    replace HB5 := HB5.ext e28
    replace HT5 := HT5.ext e28
    replace HB6 := HB6.ext e28
    replace HT6 := HT6.ext e28
    obtain ⟨hok2, q1, q2, q3, q4, q5, q6, HB8, HT8, HB9, HT9⟩ := hT
    replace HT8 := HT8.mono (F' := fun i => i < w28.heap.size) fun i hi h => hi
    replace HT9 := HT9.mono (F' := fun i => i < w28.heap.size) fun i hi h => hi
    refine l_v (v_move (t := .tuple _) rfl) ?_
    refine l_v (v_extract (t := .pointer _) rfl rfl) ?_
    refine l_v (v_extract (t := .pointer _) rfl rfl) ?_
    refine l_v (v_extract (t := .bool _) rfl rfl) ?_
    refine l_v (v_assign (t := .pointer _) rfl) ?_
    refine l_v (v_assign (t := .pointer _) rfl) ?_
    refine l_v (v_assign (t := .bool _) rfl) ?_
    refine l_nil ?_
    refine n_then ?_
    refine c_seq ?_
    refine c_seq ?_
    refine wp_reg (by decide +kernel) ?_
    refine l_v (v_move (t := .bool _) rfl) ?_
    refine l_v (v_not rfl) ?_
    refine l_v (v_move (t := .bool _) rfl) ?_
    refine l_g1 rfl rfl (fun hG => v_move (t := .bool _) rfl) ?_
    refine l_g1 rfl rfl (fun hG => v_not (gd hG rfl)) ?_
    refine l_v (v_or rfl rfl) ?_
    refine l_v (v_move (t := .bool _) rfl) ?_
    refine l_g1 rfl rfl (fun hG => v_move (t := .pointer _) rfl) ?_
    refine l_g1 rfl rfl (fun hG => v_move (t := .pointer _) rfl) ?_
    refine l_g1f rfl rfl (fun hG => to_f2 (by kernel_rfl) (gd hG rfl) (gd hG rfl) (TSame_c HB5 HT5 HB8 HT8 hok hok2)) ?_
    rintro w104 e104
    have zs_e104 := e104.size
    replace E := E.trans (Ext.keep e104)
    replace HS1 := HS1.ext e104
    replace HS2 := HS2.ext e104
    replace HB5 := HB5.ext e104
    replace HT5 := HT5.ext e104
    replace HB6 := HB6.ext e104
    replace HT6 := HT6.ext e104
    replace HB8 := HB8.ext e104
    replace HT8 := HT8.ext e104
    replace HB9 := HB9.ext e104
    replace HT9 := HT9.ext e104
    refine l_g1 rfl rfl (fun hG => v_move (t := .pointer _) rfl) ?_
    refine l_g1 rfl rfl (fun hG => v_move (t := .pointer _) rfl) ?_
    refine l_g1f rfl rfl (fun hG => to_f2 (by kernel_rfl) (gd hG rfl) (gd hG rfl) (refTSame_c HB6 HT6 HB9 HT9 hok)) ?_
    rintro w105 e105
    have zs_e105 := e105.size
    replace E := E.trans (Ext.keep e105)
    replace HS1 := HS1.ext e105
    replace HS2 := HS2.ext e105
    replace HB5 := HB5.ext e105
    replace HT5 := HT5.ext e105
    replace HB6 := HB6.ext e105
    replace HT6 := HT6.ext e105
    replace HB8 := HB8.ext e105
    replace HT8 := HT8.ext e105
    replace HB9 := HB9.ext e105
    replace HT9 := HT9.ext e105
    refine l_g1 rfl rfl (fun hG => v_bneq (by kernel_rfl) (gd hG rfl) (gd hG rfl)) ?_
    refine l_v (v_or rfl rfl) ?_
    refine l_v (v_move (t := .bool _) rfl) ?_
    refine l_g1 rfl rfl (fun hG => v_move (t := .pointer _) rfl) ?_
    refine l_g1 rfl rfl (fun hG => v_move (t := .pointer _) rfl) ?_
    refine l_g1f rfl rfl (fun hG => to_f2 (by kernel_rfl) (gd hG rfl) (gd hG rfl) (TSame_c HB5 HT5 HB5 HT5 hok hok)) ?_
    rintro w106 e106
    have zs_e106 := e106.size
    replace E := E.trans (Ext.keep e106)
    replace HS1 := HS1.ext e106
    replace HS2 := HS2.ext e106
    replace HB5 := HB5.ext e106
    replace HT5 := HT5.ext e106
    replace HB6 := HB6.ext e106
    replace HT6 := HT6.ext e106
    replace HB8 := HB8.ext e106
    replace HT8 := HT8.ext e106
    replace HB9 := HB9.ext e106
    replace HT9 := HT9.ext e106
    refine l_g1 rfl rfl (fun hG => v_not (gd hG rfl)) ?_
    refine l_v (v_or rfl rfl) ?_
    refine l_nil ?_
    refine n_then ?_
    refine c_cond rfl rfl (fun hq => ?_) (fun hq => ?_)
    · skip
      rw [(eqT_iff hok hok).2 rfl] at hq; simp at hq
    · skip
      refine c_skip ?_
      refine n_then ?_
      refine c_seq ?_
      refine wp_reg (by decide +kernel) ?_
      refine l_v (v_move (t := .pointer _) rfl) ?_
      refine l_to (to_f1 (by kernel_rfl) (show _ = (Value.pointer _) from rfl) (CallsR.mono (TCopy_c HB5 HT5 hok) ?_))
      rintro _ w54 ⟨⟨b11, m11, rfl, hb11, hm11, hn11, HB11, HT11⟩, e54⟩
      have zs_e54 := e54.size
      have zb11 := HB11.lt
      have zm11 := HT11.lt
      replace E := E.trans (Ext.keep e54)
      replace HS1 := HS1.ext e54
      replace HS2 := HS2.ext e54
      replace HB5 := HB5.ext e54
      replace HT5 := HT5.ext e54
      replace HB6 := HB6.ext e54
      replace HT6 := HT6.ext e54
      replace HB8 := HB8.ext e54
      replace HT8 := HT8.ext e54
      replace HB9 := HB9.ext e54
      replace HT9 := HT9.ext e54
      refine l_v (v_assign (t := .pointer _) rfl) ?_
      refine l_nil ?_
      refine n_then ?_
      refine c_seq ?_
      refine c_seq ?_
      refine wp_reg (by decide +kernel) ?_
      refine l_v (v_move (t := .pointer _) rfl) ?_
      refine l_v (v_peql (et := 65) (by kernel_rfl) rfl rfl) ?_
      refine l_v (v_move (t := .bool _) rfl) ?_
      refine l_g1 rfl rfl (fun hG => v_move (t := .pointer _) rfl) ?_
      refine l_g1 rfl rfl (fun hG => v_move (t := .pointer _) rfl) ?_
      refine l_g1f rfl rfl (fun hG => to_f2 (by kernel_rfl) (gd hG rfl) (gd hG rfl) (TSame_c HB11 HT11 HB5 HT5 hok hok)) ?_
      rintro w107 e107
      have zs_e107 := e107.size
      replace E := E.trans (Ext.keep e107)
      replace HS1 := HS1.ext e107
      replace HS2 := HS2.ext e107
      replace HB5 := HB5.ext e107
      replace HT5 := HT5.ext e107
      replace HB6 := HB6.ext e107
      replace HT6 := HT6.ext e107
      replace HB11 := HB11.ext e107
      replace HT11 := HT11.ext e107
      refine l_g1 rfl rfl (fun hG => v_not (gd hG rfl)) ?_
      refine l_v (v_or rfl rfl) ?_
      refine l_nil ?_
      refine n_then ?_
      refine c_cond rfl rfl (fun hq2 => ?_) (fun hq2 => ?_)
      · skip
        rw [(eqT_iff hok hok).2 rfl] at hq2; simp at hq2
      · skip
        refine c_skip ?_
        refine n_then ?_
        refine c_seq ?_
        refine c_seq ?_
        refine wp_reg (by decide +kernel) ?_
        refine l_v (v_assign rfl) ?_
        refine l_nil ?_
        refine n_then ?_
        refine c_block ?_
        refine c_loop (τ := Nat × TbS) [12, 63, 64, 65, 66, 67, 68, 69, 70, 71, 72, 73, 74, 75, 76, 77, 78, 79, 80, 81, 82, 83, 84, 85] (fun (i, S3) => [(12, .int .i64 i)]) (fun (i, S3) W => Ext w W ∧ Keep (fun i => i = m11) w107 W ∧ i ≤ l2.length ∧ TbI W (fun i => i ≠ m11) m11 S3) (fun (i, S3) => l2.length - i) (0, S) (by exact ⟨rfl, trivial⟩) (by exact ⟨E, Keep.refl _, Nat.zero_le _, HT11.mono (fun i hi h => by omega)⟩) ?_
        rintro ⟨i, S3⟩ w108 j ⟨E, EL1, h1, HT12⟩
        have zs_EL1 := EL1.size
        replace HS1 := HS1.keep EL1 (by intro i _ hi he; (try dsimp only [NoK, AllB] at hi he); first | exact hi.elim | exact he.elim | omega | (rcases hi with hi | hi <;> omega) | (rcases he with he | he <;> omega))
        replace HS2 := HS2.keep EL1 (by intro i _ hi he; (try dsimp only [NoK, AllB] at hi he); first | exact hi.elim | exact he.elim | omega | (rcases hi with hi | hi <;> omega) | (rcases he with he | he <;> omega))
        replace HB5 := HB5.keep EL1 (by intro h; (try dsimp only at h); first | omega)
        replace HT5 := HT5.keep EL1 (by intro i _ hi he; (try dsimp only [NoK, AllB] at hi he); first | exact hi.elim | exact he.elim | omega | (rcases hi with hi | hi <;> omega) | (rcases he with he | he <;> omega))
        replace HB6 := HB6.keep EL1 (by intro h; (try dsimp only at h); first | omega)
        replace HT6 := HT6.keep EL1 (by intro i _ hi he; (try dsimp only [NoK, AllB] at hi he); first | exact hi.elim | exact he.elim | omega | (rcases hi with hi | hi <;> omega) | (rcases he with he | he <;> omega))
        replace HB11 := HB11.keep EL1 (by intro h; (try dsimp only at h); first | omega)
        refine c_seq ?_
        refine c_seq ?_
        refine wp_reg (by decide +kernel) ?_
        refine l_v (v_move (t := .int _ _) rfl) ?_
        refine l_v (v_move (t := .slice _ _ _) rfl) ?_
        refine l_v (v_len (et := 58) (by kernel_rfl) rfl) ?_
        refine l_v (v_lss rfl rfl) ?_
        refine l_nil ?_
        refine n_then ?_
        refine c_cond rfl rfl (fun hlt => ?_) (fun hlt => ?_)
        · skip
          have hlt := dtrue hlt
          obtain ⟨x, hx, hdr⟩ := getE (l := l2) (i := i) (by omega)
          obtain ⟨q, cs, hq', hF, _, HPq, hr⟩ := HS2.el hx
          cases hq'
          obtain ⟨a3, c3, a4, c4, rfl, HS3, HS4, g1, g2, g3⟩ := tDs_cells hr
          have HG3 := AgV.mkAn' HS3 HS4 g1
          replace HT12 := HT12.mono (F' := fun i => i ≠ m11 ∧ i < w108.heap.size) fun i hi h => ⟨h, hi⟩
          refine c_skip ?_
          refine n_then ?_
          refine c_seq ?_
          refine c_block ?_
          refine wp_any (by kernel_rfl) ?_
          have e109 : Ext w108 { w108 with drawn := w108.drawn + 1 } := Keep.drawn _ _
          generalize hw109 : ({ w108 with drawn := w108.drawn + 1 } : World) = w109 at e109 ⊢
          clear hw109
          have zs_e109 := e109.size
          replace E := E.trans (Ext.keep e109)
          replace HS1 := HS1.ext e109
          replace HS2 := HS2.ext e109
          replace HB5 := HB5.ext e109
          replace HT5 := HT5.ext e109
          replace HB6 := HB6.ext e109
          replace HT6 := HT6.ext e109
          replace HB11 := HB11.ext e109
          replace HT12 := HT12.ext e109
          replace EL1 := EL1.trans (Ext.keep e109)
          replace HPq := HPq.ext e109
          replace HG3 := HG3.ext e109
          refine r_cut 16 rfl (by decide +kernel) (by decide +kernel) (by decide +kernel) ?_
          refine wp_regdW (NoK) (by decide +kernel) (by decide +kernel) ?_
          refine rt_v (fun vals w hR hd => v_move (t := .pointer _) rfl) ?_
          refine rt_v (fun vals w hR hd => v_move (t := .slice _ _ _) rfl) ?_
          refine rt_v (fun vals w hR hd => v_move (t := .int _ _) rfl) ?_
          refine rt_v (fun vals w hR hd => v_indexAddr (et := 58) (sz := 6) (k := i) (by kernel_rfl) (by kernel_rfl) (hd 1 rfl) (hd 2 rfl) (by first | rfl | omega) (by omega)) ?_
          refine rt_v (fun vals w hR hd => v_fieldAddr (off := 0) (ft := 3) (by kernel_rfl) (hd 3 rfl)) ?_
          refine rt_v (fun vals w hR hd => v_load (by kernel_rfl) (hd 4 rfl) (by first | exact (HPq.ext hR) 0 _ rfl | exact (HB11.ext hR).pv 0 _ rfl | exact (HB6.ext hR).pv 0 _ rfl | exact (HB5.ext hR).pv 0 _ rfl | assumption)) ?_
          refine rt_v (fun vals w hR hd => v_move (t := .slice _ _ _) rfl) ?_
          refine rt_v (fun vals w hR hd => v_move (t := .int _ _) rfl) ?_
          refine rt_v (fun vals w hR hd => v_indexAddr (et := 58) (sz := 6) (k := i) (by kernel_rfl) (by kernel_rfl) (hd 6 rfl) (hd 7 rfl) (by first | rfl | omega) (by omega)) ?_
          refine rt_v (fun vals w hR hd => v_fieldAddr (off := 1) (ft := 2) (by kernel_rfl) (hd 8 rfl)) ?_
          refine rt_v (fun vals w hR hd => v_load (by kernel_rfl) (hd 9 rfl) (by first | exact (HPq.ext hR) 1 _ rfl | exact pv_1 (HPq.ext hR) | exact (HB11.ext hR).pv 1 _ rfl | exact (HB6.ext hR).pv 1 _ rfl | exact (HB5.ext hR).pv 1 _ rfl | assumption)) ?_
          refine rt_v (fun vals w hR hd => v_move (t := .slice _ _ _) rfl) ?_
          refine rt_v (fun vals w hR hd => v_move (t := .int _ _) rfl) ?_
          refine rt_v (fun vals w hR hd => v_indexAddr (et := 58) (sz := 6) (k := i) (by kernel_rfl) (by kernel_rfl) (hd 11 rfl) (hd 12 rfl) (by first | rfl | omega) (by omega)) ?_
          refine rt_v (fun vals w hR hd => v_fieldAddr (off := 2) (ft := 33) (by kernel_rfl) (hd 13 rfl)) ?_
          refine rt_v (fun vals w hR hd => v_loadA (by kernel_rfl) (hd 14 rfl) (by first | exact (show Pv _ _ [_, _, _] from pv_sub 2 3 (HPq.ext hR)) | exact (show Pv _ _ [_, _, _] from pv_sub 2 3 (HB11.ext hR).pv) | exact (show Pv _ _ [_, _, _] from pv_sub 2 3 (HB6.ext hR).pv) | exact (show Pv _ _ [_, _, _] from pv_sub 2 3 (HB5.ext hR).pv) | exact pv_at 2 (HPq.ext hR) | exact pv_at 2 (HB11.ext hR).pv | exact pv_at 2 (HB6.ext hR).pv | exact pv_at 2 (HB5.ext hR).pv | exact (HPq.ext hR) | assumption) rfl) ?_
          refine rt_nil (fun w110 e110 => ?_)
          rintro _ rfl _ rfl _ rfl _ rfl _ rfl _ rfl _ rfl _ rfl _ rfl _ rfl _ rfl _ rfl _ rfl _ rfl _ rfl _ rfl
          have zs_e110 := e110.size
          replace E := E.trans (Ext.keep e110)
          replace HS1 := HS1.ext e110
          replace HS2 := HS2.ext e110
          replace HB5 := HB5.ext e110
          replace HT5 := HT5.ext e110
          replace HB6 := HB6.ext e110
          replace HT6 := HT6.ext e110
          replace HB11 := HB11.ext e110
          replace HT12 := HT12.ext e110
          replace EL1 := EL1.trans (Ext.keep e110)
          replace HPq := HPq.ext e110
          replace HG3 := HG3.ext e110
          refine fin_nil ?_
          refine n_then ?_
          refine r_one (by decide +kernel) rfl ?_
          refine l_to (to_f4 (by kernel_rfl) (show _ = (Value.pointer _) from rfl) (show _ = (Value.int _ _) from rfl) (show _ = (Value.int _ _) from rfl) (show _ = (Value.agg _) from rfl) (CallsR.mono (Put_c HB11 HT12 (fun i h => h.1) hn11 HG3 g3) ?_))
          rintro _ w85 ⟨⟨rfl, HT13⟩, k85⟩
          have zs_k85 := k85.size
          replace E := E.step k85 (by intro i hi he; (try dsimp only [NoK] at hi he ⊢); first | exact he.elim | omega | exact he)
          replace HS1 := HS1.keep k85 (by intro i _ hi he; (try dsimp only [NoK, AllB] at hi he); first | exact hi.elim | exact he.elim | omega | (rcases hi with hi | hi <;> omega) | (rcases he with he | he <;> omega))
          replace HS2 := HS2.keep k85 (by intro i _ hi he; (try dsimp only [NoK, AllB] at hi he); first | exact hi.elim | exact he.elim | omega | (rcases hi with hi | hi <;> omega) | (rcases he with he | he <;> omega))
          replace HB5 := HB5.keep k85 (by intro h; (try dsimp only at h); first | omega)
          replace HT5 := HT5.keep k85 (by intro i _ hi he; (try dsimp only [NoK, AllB] at hi he); first | exact hi.elim | exact he.elim | omega | (rcases hi with hi | hi <;> omega) | (rcases he with he | he <;> omega))
          replace HB6 := HB6.keep k85 (by intro h; (try dsimp only at h); first | omega)
          replace HT6 := HT6.keep k85 (by intro i _ hi he; (try dsimp only [NoK, AllB] at hi he); first | exact hi.elim | exact he.elim | omega | (rcases hi with hi | hi <;> omega) | (rcases he with he | he <;> omega))
          replace HB11 := HB11.keep k85 (by intro h; (try dsimp only at h); first | omega)
          replace EL1 := EL1.step k85 (by intro i hi he; (try dsimp only [NoK] at hi he ⊢); first | exact he.elim | omega | exact he)
          replace HPq := HPq.keep k85 (by intro h; (try dsimp only at h); (try simp only [add_block] at h); first | omega)
          replace HG3 := HG3.keep k85 (by intro i _ hi he; (try dsimp only [NoK, AllB] at hi he); first | exact hi.elim | exact he.elim | omega | (rcases hi with hi | hi <;> omega) | (rcases he with he | he <;> omega))
          refine l_nil ?_
          refine n_blk ?_
          refine n_then ?_
          refine wp_reg (by decide +kernel) ?_
          refine l_v (v_move (t := .int _ _) rfl) ?_
          refine l_v (v_add rfl rfl (by first | exact wr_i64 (by omega) (by omega) | rfl)) ?_
          refine l_v (v_assign (t := .int _ _) rfl) ?_
          refine l_nil ?_
          refine n_then ?_
          refine ⟨(i + 1, (putN S3 x.1 x.2.1 x.2.2.1).2), _, rfl, by (repeat (first | exact Off.of_over _ _ _ | refine Off.upd ?_ (by decide) _ | refine Off.overs ?_ (by decide) _)), ⟨by first | rfl | exact congrArg (Value.int _) (by omega) | (simp; done), trivial⟩, ⟨E, EL1, ?_⟩, ?_⟩
          · skip
            exact ⟨by omega, HT13.mono (fun i hi h => by rcases h with h | h <;> omega)⟩
          · (dsimp only; omega)
        · skip
          refine c_exit ?_
          refine x_then ?_
          refine x_then ?_
          refine x_hit ?_
          refine n_then ?_
          refine c_seq ?_
          refine wp_regd (NoK) (by kernel_rfl) (by decide +kernel) (by decide +kernel) ?_
          refine rt_v (fun vals w hR hd => v_move (t := .pointer _) rfl) ?_
          refine rt_to (fun v W => Bv W AllB v (tbW S)) (fun v w w' h k => h.ext k) (fun vals w hR hd => to_f1 (by kernel_rfl) (hd 0 rfl) (CallsR.mono (TBytes_c (HB5.ext hR) (HT5.ext hR) hok) fun v w1 ⟨⟨_, _, _, h⟩, e⟩ => ⟨e, h.allB⟩)) ?_
          refine rt_v (fun vals w hR hd => v_b2s (et := 5) (by kernel_rfl) (by kernel_rfl) (by kernel_rfl) rfl (hd 1 rfl)) ?_
          refine rt_v (fun vals w hR hd => v_move (t := .pointer _) rfl) ?_
          refine rt_to (fun v W => Bv W AllB v (tbW S)) (fun v w w' h k => h.ext k) (fun vals w hR hd => to_f1 (by kernel_rfl) (hd 3 rfl) (CallsR.mono (refTBytes_c (HB6.ext hR) (HT6.ext hR) hok) fun v w1 ⟨⟨_, _, _, h⟩, e⟩ => ⟨e, h.allB⟩)) ?_
          refine rt_v (fun vals w hR hd => v_b2s (et := 5) (by kernel_rfl) (by kernel_rfl) (by kernel_rfl) rfl (hd 4 rfl)) ?_
          refine rt_v (fun vals w hR hd => v_seq (hd 2 rfl) (hd 5 rfl)) ?_
          refine rt_v (fun vals w hR hd => v_move (t := .bool _) (hd 6 rfl)) ?_
          refine rt_g1f rfl (fun vals w hd => hd 7 rfl) (fun vals w hR hd hG => to_f0 (by kernel_rfl) (known_c)) ?_
          refine rt_v (fun vals w hR hd => v_and (hd 7 rfl) (hd 8 rfl)) ?_
          refine rt_v (fun vals w hR hd => v_assign (t := .bool _) (hd 9 rfl)) ?_
          refine rt_nil (fun w111 e111 => ?_)
          rintro _ rfl v87 HS87 _ rfl _ rfl v90 HS90 _ rfl _ rfl _ rfl _ rfl _ rfl _ rfl
          have zs_e111 := e111.size
          replace E := E.trans (Ext.keep e111)
          replace HS1 := HS1.ext e111
          replace HS2 := HS2.ext e111
          replace HB5 := HB5.ext e111
          replace HT5 := HT5.ext e111
          replace HB6 := HB6.ext e111
          replace HT6 := HT6.ext e111
          replace HB11 := HB11.ext e111
          replace HT12 := HT12.ext e111
          refine fin_nil ?_
          refine n_then ?_
          refine c_ret ?_
          refine ret1v rfl (by decide) (show _ = (Value.bool _) from rfl) ?_
          refine ⟨?_, E⟩
          simp
end Go.Proofs.Ytlhanmlpionomaa
