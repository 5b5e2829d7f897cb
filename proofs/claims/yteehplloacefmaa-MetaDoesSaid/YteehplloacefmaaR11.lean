/- A part of the proof: steps and lemmas for the walks through the given program. -/
import Derived.Test.YteehplloacefmaaR10
namespace Go.Proofs.Yteehplloacefmaa
open Go.Vc
set_option linter.unusedVariables false
set_option linter.unusedSimpArgs false
set_option maxRecDepth 100000

theorem keyB_le {k : List UInt8} (h : keyB k = true) : k.length ≤ 24 := by
  simp only [keyB, Bool.and_eq_true, decide_eq_true_eq] at h; exact h.2

theorem Union_c {w : World} {F G : Nat → Prop} {v kv : Value} {e : Int} {rs : List RgV} {k : List UInt8} (HG1 : AgV tMp w F v (e, rs)) (HS2 : Bv w G kv k) : CallsR Try.prog 33 #[v, kv] w (fun o w' => (∃ x, o = .tuple #[x, .int .i64 (unionM (e, rs) k).2] ∧ AgV tMp w' (fun b => w.heap.size ≤ b) x (unionM (e, rs) k).1) ∧ Ext w w') := by
  obtain ⟨a, c, rfl, HSr, he⟩ := HG1.mp
  obtain ⟨a3, c3, rfl⟩ := HS2.shape
  simp only at HSr he
  have hrc := nc_le HSr
  refine enter 79 Try.func33 rfl rfl (by simp) ?_
  refine c_seq ?_
  have E := Keep.refl (K := NoK) w
  replace HG1 := HG1.all
  replace HS2 := HS2.all
  replace HSr := HSr.all
  refine wp_reg zd (l_to (to_box (zvA rfl) ?_))
  rintro b2 w2 zb2 HB2 e2 z2
  have zs_e2 := e2.size
  replace E := E.trans (Ext.keep e2)
  replace HG1 := HG1.ext e2
  replace HS2 := HS2.ext e2
  replace HSr := HSr.ext e2
  try simp only [Value.cells] at HB2
  refine l_to (to_alloc (z := (.agg #[.int .i64 0, .slice none 0 0])) (by unfold kZero; kernel_rfl) ?_)
  rintro b4 w4 zb4 HB4 e4 z4
  have zs_e4 := e4.size
  replace E := E.trans (Ext.keep e4)
  replace HG1 := HG1.ext e4
  replace HS2 := HS2.ext e4
  replace HSr := HSr.ext e4
  replace HB2 := HB2.ext e4
  try simp only [Value.cells] at HB4
  refine l_v (v_assign rfl) (l_nil (n_then (c_seq (wp_reg zd (l_v (v_loadA zk rfl (by first | exact HB4.pv | exact HB2.pv | assumption) rfl) ?_)))))
  refine l_v (zmS rfl) (l_to (to_f2 zk (zvA rfl) (zvS rfl) (CallsR.mono (begins_c HG1 HS2) ?_)))
  rintro _ w101 ⟨rfl, e101⟩
  have zs_e101 := e101.size
  replace E := E.trans (Ext.keep e101)
  replace HG1 := HG1.ext e101
  replace HS2 := HS2.ext e101
  replace HSr := HSr.ext e101
  replace HB2 := HB2.ext e101
  replace HB4 := HB4.ext e101
  refine l_v (zaI rfl) (l_nil (n_then (c_seq (c_block (c_seq (wp_reg zd (l_v (v_loadA zk rfl (by first | exact HB4.pv | exact HB2.pv | assumption) rfl) ?_)))))))
  refine l_to (to_f1 zk (zvA rfl) (CallsR.mono (May_c HG1) ?_))
  rintro _ w102 ⟨rfl, e102⟩
  have zs_e102 := e102.size
  replace E := E.trans (Ext.keep e102)
  replace HG1 := HG1.ext e102
  replace HS2 := HS2.ext e102
  replace HSr := HSr.ext e102
  replace HB2 := HB2.ext e102
  replace HB4 := HB4.ext e102
  refine l_v (v_not rfl) ?_
  refine l_v (zmB rfl) (l_g1 rfl rfl (fun hG => zmS rfl) (l_g1f rfl rfl (fun hG => to_f1 zk (gd hG rfl) (key_c HS2)) ?_))
  rintro w103 e103
  have zs_e103 := e103.size
  replace E := E.trans (Ext.keep e103)
  replace HG1 := HG1.ext e103
  replace HS2 := HS2.ext e103
  replace HSr := HSr.ext e103
  replace HB2 := HB2.ext e103
  replace HB4 := HB4.ext e103
  refine l_g1 rfl rfl (fun hG => v_not (gd hG rfl)) ?_
  refine l_v (v_or rfl rfl) ?_
  refine l_v (zaB rfl) (l_nil (n_then (c_cond rfl rfl (fun hc => ?_) (fun hc => ?_))))
  · skip
    refine c_seq (wp_reg zd (l_v (v_build (pl := [(0, 1), (1, 1)]) (z := .agg #[.int .i64 0, .slice none 0 0]) (zl := [.int .i64 0, .slice none 0 0]) zk (by unfold kZero; kernel_rfl) rfl rfl (cells := [_, _]) rfl) ?_))
    refine l_to (to_storeA (n := 2) rfl rfl (zvA rfl) zk rfl dj6 HB4 dj5 ?_)
    rintro w104 HX104 k104 z104
    have zs_k104 := k104.size
    replace E := E.step k104 dj3
    replace HG1 := HG1.keep k104 dj1
    replace HS2 := HS2.keep k104 dj1
    replace HSr := HSr.keep k104 dj1
    replace HB2 := HB2.keep k104 dj4
    replace HB4 := HX104
    clear HX104
    try simp only [zS, Nat.zero_add, Nat.reduceAdd, List.drop_nil] at HB4
    refine l_v (v_assign rfl) (l_nil (n_then (c_ret (r_blk (r_then (ret2cv (n := 2) rfl zq zq rfl zk HB4.pv rfl (zvI rfl) ?_))))))
    have h : (mayM (e, rs) && keyB k) = false := by revert hc; rw [keyB]; cases mayM (e, rs) <;> cases decide (1 ≤ k.length) <;> cases decide (k.length ≤ 24) <;> simp
    rw [unionM, if_pos h]
    exact ⟨⟨_, rfl, AgV.mkMp (SlV.nil _ _ _) zo⟩, E⟩
  · skip
    have hmk : (mayM (e, rs) && keyB k) = true := by revert hc; rw [keyB]; cases mayM (e, rs) <;> cases decide (1 ≤ k.length) <;> cases decide (k.length ≤ 24) <;> simp
    have hm : mayM (e, rs) = true := by revert hmk; cases mayM (e, rs) <;> simp
    have hkk : keyB k = true := by revert hmk; cases mayM (e, rs) <;> simp
    have hnf : ¬ (mayM (e, rs) && keyB k) = false := by rw [hmk]; simp
    have h24 : k.length ≤ 24 := keyB_le hkk
    refine c_seq (wp_reg zd (l_v (zmI rfl) (l_v (v_lss rfl rfl) ?_)))
    refine l_v (zaB rfl) (l_nil (n_then (c_cond rfl rfl (fun hb => ?_) (fun hb => ?_))))
    · skip
      refine c_seq (wp_reg zd (l_v (v_build (pl := [(0, 1), (1, 1)]) (z := .agg #[.int .i64 0, .slice none 0 0]) (zl := [.int .i64 0, .slice none 0 0]) zk (by unfold kZero; kernel_rfl) rfl rfl (cells := [_, _]) rfl) ?_))
      refine l_to (to_storeA (n := 2) rfl rfl (zvA rfl) zk rfl dj6 HB4 dj5 ?_)
      rintro w105 HX105 k105 z105
      have zs_k105 := k105.size
      replace E := E.step k105 dj3
      replace HG1 := HG1.keep k105 dj1
      replace HS2 := HS2.keep k105 dj1
      replace HSr := HSr.keep k105 dj1
      replace HB2 := HB2.keep k105 dj4
      replace HB4 := HX105
      clear HX105
      try simp only [zS, Nat.zero_add, Nat.reduceAdd, List.drop_nil] at HB4
      refine l_v (v_assign rfl) (l_nil (n_then (c_ret (r_blk (r_then (ret2cv (n := 2) rfl zq zq rfl zk HB4.pv rfl (zvI rfl) ?_))))))
      have h := optI_neg.1 (dtrue hb)
      rw [unionM, if_neg hnf, h]
      exact ⟨⟨_, rfl, AgV.mkMp (SlV.nil _ _ _) zo⟩, E⟩
    · skip
      obtain ⟨i, hi⟩ : ∃ i, findO (e, rs) (begB k) = some i := by
        cases h : findO (e, rs) (begB k) with
        | none => rw [h] at hb; simp [optI] at hb
        | some i => exact ⟨i, rfl⟩
      have hi1 := beg_pos hi hkk
      obtain ⟨_, hlt, _⟩ := findO_at hi
      simp only at hlt
      obtain ⟨hp1, hp2, _, hp4, _, _⟩ := mayM_parts hm
      simp only at hp1 hp2 hp4
      have hlens := mayM_lens hm
      simp only at hlens
      obtain ⟨hl1, hl2, hgr⟩ := hlens _ (getD_mem (l := rs) hlt)
      have hlt2 : i - 1 < rs.length := by omega
      obtain ⟨hl3, hl4, hgr2⟩ := hlens _ (getD_mem (l := rs) hlt2)
      have hoi : optI (some i) = (i : Int) := rfl
      obtain ⟨q, cs, hq, hF, hqb, HPq, hr⟩ := HSr.el (getD_at hlt)
      obtain ⟨q', cs', hq', hF', _, HPp, hr'⟩ := HSr.el (getD_at hlt2)
      subst hq
      obtain rfl := Option.some.inj hq'
      obtain ⟨r, hrr⟩ : ∃ r, r = rs.getD i rg0 := ⟨_, rfl⟩
      obtain ⟨p, hpp⟩ : ∃ p, p = rs.getD (i - 1) rg0 := ⟨_, rfl⟩
      rw [← hrr] at hr hl1 hl2 hgr
      rw [← hpp] at hr' hl3 hl4 hgr2
      have HG6 : AgV tRg _ _ _ r := ⟨cs, rfl, hr⟩
      have HG5 : AgV tRg _ _ _ p := ⟨cs', rfl, hr'⟩
      obtain ⟨b5, d5, b6, d6, rfl, HS6, HS7, hg⟩ := tRg_cells hr
      obtain ⟨b7, d7, b8, d8, rfl, HS8, HS9, hg2⟩ := tRg_cells hr'
      have hspl : unionM (e, rs) k = if r.2.2.2 ≠ p.2.2.2 then (mp0, 9) else nextM e (rs.take (i - 1) ++ [(p.1, r.2.1, r.2.2.1, p.2.2.2)] ++ rs.drop (i + 1)) := by rw [unionM, if_neg hnf, hi, hrr, hpp]
      rw [hi, hoi]
      refine c_seq (wp_regd (NoK) zk zd zd ?_)
      refine rt_v (fun vals w hR hd => v_fieldAddr (off := 1) (ft := 22) zk rfl) ?_
      refine rt_v (fun vals w hR hd => v_load zk (hd 0 rfl) (by first | exact (HPp.ext hR) 1 _ rfl | exact pv_1 (HPp.ext hR) | exact (HPq.ext hR) 1 _ rfl | exact pv_1 (HPq.ext hR) | exact (HB4.ext hR).pv 1 _ rfl | exact (HB2.ext hR).pv 1 _ rfl | assumption)) ?_
      refine rt_v (fun vals w hR hd => zmI rfl) ?_
      refine rt_v (fun vals w hR hd => v_indexAddr (et := 63) (sz := 4) (k := i) zk zk (hd 1 rfl) (hd 2 rfl) (rfl) (hlt)) ?_
      refine rt_v (fun vals w hR hd => v_fieldAddr (off := 3) (ft := 3) zk (hd 3 rfl)) ?_
      refine rt_v (fun vals w hR hd => v_load zk (hd 4 rfl) (by first | exact (HPp.ext hR) 3 _ rfl | exact pv_1 (HPp.ext hR) | exact (HPq.ext hR) 3 _ rfl | exact pv_1 (HPq.ext hR) | exact (HB4.ext hR).pv 3 _ rfl | exact (HB2.ext hR).pv 3 _ rfl | assumption)) ?_
      refine rt_v (fun vals w hR hd => v_fieldAddr (off := 1) (ft := 22) zk rfl) ?_
      refine rt_v (fun vals w hR hd => v_load zk (hd 6 rfl) (by first | exact (HPp.ext hR) 1 _ rfl | exact pv_1 (HPp.ext hR) | exact (HPq.ext hR) 1 _ rfl | exact pv_1 (HPq.ext hR) | exact (HB4.ext hR).pv 1 _ rfl | exact (HB2.ext hR).pv 1 _ rfl | assumption)) ?_
      refine rt_v (fun vals w hR hd => zmI rfl) ?_
      refine rt_v (fun vals w hR hd => v_sub (hd 8 rfl) rfl (by first | exact wr_i64 zo zo | rfl)) ?_
      refine rt_v (fun vals w hR hd => v_indexAddr (et := 63) (sz := 4) (k := i - 1) zk zk (hd 7 rfl) (hd 9 rfl) (by first | rfl | omega) (hlt2)) ?_
      refine rt_v (fun vals w hR hd => v_fieldAddr (off := 3) (ft := 3) zk (hd 10 rfl)) ?_
      refine rt_v (fun vals w hR hd => v_load zk (hd 11 rfl) (by first | exact (HPp.ext hR) 3 _ rfl | exact pv_1 (HPp.ext hR) | exact (HPq.ext hR) 3 _ rfl | exact pv_1 (HPq.ext hR) | exact (HB4.ext hR).pv 3 _ rfl | exact (HB2.ext hR).pv 3 _ rfl | assumption)) ?_
      refine rt_v (fun vals w hR hd => v_neq (hd 5 rfl) (hd 12 rfl)) ?_
      refine rt_v (fun vals w hR hd => v_assign (t := .bool _) (hd 13 rfl)) ?_
      refine rt_nil (fun w106 e106 => ?_)
      rintro _ rfl _ rfl _ rfl _ rfl _ rfl _ rfl _ rfl _ rfl _ rfl _ rfl _ rfl _ rfl _ rfl _ rfl _ rfl
      have zs_e106 := e106.size
      replace E := E.trans (Ext.keep e106)
      replace HG1 := HG1.ext e106
      replace HS2 := HS2.ext e106
      replace HSr := HSr.ext e106
      replace HB2 := HB2.ext e106
      replace HB4 := HB4.ext e106
      replace HPq := HPq.ext e106
      replace HPp := HPp.ext e106
      replace HG5 := HG5.ext e106
      replace HG6 := HG6.ext e106
      replace HS6 := HS6.ext e106
      replace HS7 := HS7.ext e106
      replace HS8 := HS8.ext e106
      replace HS9 := HS9.ext e106
      refine fin_nil (n_then (c_cond rfl rfl (fun hn => ?_) (fun hn => ?_)))
      · skip
        refine c_seq (wp_reg zd (l_v (v_build (pl := [(0, 1), (1, 1)]) (z := .agg #[.int .i64 0, .slice none 0 0]) (zl := [.int .i64 0, .slice none 0 0]) zk (by unfold kZero; kernel_rfl) rfl rfl (cells := [_, _]) rfl) ?_))
        refine l_to (to_storeA (n := 2) rfl rfl (zvA rfl) zk rfl dj6 HB4 dj5 ?_)
        rintro w107 HX107 k107 z107
        have zs_k107 := k107.size
        replace E := E.step k107 dj3
        replace HG1 := HG1.keep k107 dj1
        replace HS2 := HS2.keep k107 dj1
        replace HSr := HSr.keep k107 dj1
        replace HB2 := HB2.keep k107 dj4
        replace HPq := HPq.keep k107 (by intro h; (try dsimp only at h); (try simp only [add_block] at h); first | omega)
        replace HPp := HPp.keep k107 (by intro h; (try dsimp only at h); (try simp only [add_block] at h); first | omega)
        replace HG5 := HG5.keep k107 dj1
        replace HG6 := HG6.keep k107 dj1
        replace HS6 := HS6.keep k107 dj1
        replace HS7 := HS7.keep k107 dj1
        replace HS8 := HS8.keep k107 dj1
        replace HS9 := HS9.keep k107 dj1
        replace HB4 := HX107
        clear HX107
        try simp only [zS, Nat.zero_add, Nat.reduceAdd, List.drop_nil] at HB4
        refine l_v (v_assign rfl) (l_nil (n_then (c_ret (r_blk (r_then (ret2cv (n := 2) rfl zq zq rfl zk HB4.pv rfl (zvI rfl) ?_))))))
        rw [hspl, if_pos (by simpa using hn)]
        exact ⟨⟨_, rfl, AgV.mkMp (SlV.nil _ _ _) zo⟩, E⟩
      · skip
        rw [if_neg (by simpa using hn)] at hspl
        refine c_skip (n_blk (n_then (c_seq (wp_reg zd (l_v (v_fieldAddr (off := 1) (ft := 22) zk rfl) (l_v (v_load zk rfl (by first | exact HPp 1 _ rfl | exact pv_1 HPp | exact HPq 1 _ rfl | exact pv_1 HPq | exact HB4.pv 1 _ rfl | exact HB2.pv 1 _ rfl | assumption)) ?_))))))
        refine l_v (zmI rfl) (l_v (v_sub rfl rfl (by first | exact wr_i64 zo zo | rfl)) ?_)
        refine l_v (v_indexAddr (et := 63) (sz := 4) (k := i - 1) zk zk rfl rfl (by first | rfl | omega) (hlt2)) ?_
        refine l_v (v_loadA zk rfl (by first | exact HPp | exact HPq | exact HB4.pv | exact HB2.pv | assumption) rfl) ?_
        refine l_to (to_alloc (z := (.agg #[.slice none 0 0, .slice none 0 0, .bool false, .int .i64 0])) (by unfold kZero; kernel_rfl) ?_)
        rintro b10 w10 zb10 HB10 e10 z10
        have zs_e10 := e10.size
        replace E := E.trans (Ext.keep e10)
        replace HG1 := HG1.ext e10
        replace HS2 := HS2.ext e10
        replace HSr := HSr.ext e10
        replace HB2 := HB2.ext e10
        replace HB4 := HB4.ext e10
        replace HPq := HPq.ext e10
        replace HPp := HPp.ext e10
        replace HG5 := HG5.ext e10
        replace HG6 := HG6.ext e10
        replace HS6 := HS6.ext e10
        replace HS7 := HS7.ext e10
        replace HS8 := HS8.ext e10
        replace HS9 := HS9.ext e10
        try simp only [Value.cells] at HB10
        refine l_to (to_storeA (n := 4) rfl rfl (zvA rfl) zk rfl dj6 HB10 dj5 ?_)
        rintro w108 HX108 k108 z108
        have zs_k108 := k108.size
        replace E := E.step k108 dj3
        replace HG1 := HG1.keep k108 dj1
        replace HS2 := HS2.keep k108 dj1
        replace HSr := HSr.keep k108 dj1
        replace HB2 := HB2.keep k108 dj4
        replace HB4 := HB4.keep k108 dj4
        replace HPq := HPq.keep k108 (by intro h; (try dsimp only at h); (try simp only [add_block] at h); first | omega)
        replace HPp := HPp.keep k108 (by intro h; (try dsimp only at h); (try simp only [add_block] at h); first | omega)
        replace HG5 := HG5.keep k108 dj1
        replace HG6 := HG6.keep k108 dj1
        replace HS6 := HS6.keep k108 dj1
        replace HS7 := HS7.keep k108 dj1
        replace HS8 := HS8.keep k108 dj1
        replace HS9 := HS9.keep k108 dj1
        replace HB10 := HX108
        clear HX108
        try simp only [zS, Nat.zero_add, Nat.reduceAdd, List.drop_nil] at HB10
        refine l_nil (n_then (c_seq (wp_any zk ?_)))
        have e109 : Ext w108 { w108 with drawn := w108.drawn + 1 } := Keep.drawn _ _
        generalize hw109 : ({ w108 with drawn := w108.drawn + 1 } : World) = w109 at e109 ⊢
        clear hw109
        have zs_e109 := e109.size
        replace E := E.trans (Ext.keep e109)
        replace HG1 := HG1.ext e109
        replace HS2 := HS2.ext e109
        replace HSr := HSr.ext e109
        replace HB2 := HB2.ext e109
        replace HB4 := HB4.ext e109
        replace HPq := HPq.ext e109
        replace HPp := HPp.ext e109
        replace HG5 := HG5.ext e109
        replace HG6 := HG6.ext e109
        replace HS6 := HS6.ext e109
        replace HS7 := HS7.ext e109
        replace HS8 := HS8.ext e109
        replace HS9 := HS9.ext e109
        replace HB10 := HB10.ext e109
        refine r_cut 14 rfl zd zd zd ?_
        refine wp_regJW (fun k => k = b10) (StJ b10 _ _ [(13, 1, some 5, (undef : Value))]) zd zd (fun vals done hd => StJ.start HB10 (fun a ha => hd a.1 (st_lt (n := 14) rfl a ha))) ?_
        refine rj_vJ (fun done vals w hR hcl hdk hJ hdn hd => v_fieldAddr (off := 1) (ft := 22) zk rfl) (fun done vals w hdk hJ => hJ.src (Keep.refl _) hdk rfl) ?_
        refine rj_vJ (fun done vals w hR hcl hdk hJ hdn hd => v_load zk (hd 0 rfl) (by first | exact (hJ.at0 hcl hdk ⟨_, _, rfl, rfl, by decide⟩).pv 1 _ rfl | exact (HPp.keep hR (by intro h; (try dsimp only at h); (try simp only [add_block] at h); first | omega)) 1 _ rfl | exact pv_1 (HPp.keep hR (by intro h; (try dsimp only at h); (try simp only [add_block] at h); first | omega)) | exact (HPq.keep hR (by intro h; (try dsimp only at h); (try simp only [add_block] at h); first | omega)) 1 _ rfl | exact pv_1 (HPq.keep hR (by intro h; (try dsimp only at h); (try simp only [add_block] at h); first | omega)) | exact (HB4.keep hR dj4).pv 1 _ rfl | exact (HB2.keep hR dj4).pv 1 _ rfl | assumption)) (fun done vals w hdk hJ => hJ.src (Keep.refl _) hdk rfl) ?_
        refine rj_vJ (fun done vals w hR hcl hdk hJ hdn hd => zmI rfl) (fun done vals w hdk hJ => hJ.src (Keep.refl _) hdk rfl) ?_
        refine rj_vJ (fun done vals w hR hcl hdk hJ hdn hd => v_indexAddr (et := 63) (sz := 4) (k := i) zk zk (hd 1 rfl) (hd 2 rfl) (rfl) (hlt)) (fun done vals w hdk hJ => hJ.src (Keep.refl _) hdk rfl) ?_
        refine rj_vJ (fun done vals w hR hcl hdk hJ hdn hd => v_fieldAddr (off := 1) (ft := 33) zk (hd 3 rfl)) (fun done vals w hdk hJ => hJ.src (Keep.refl _) hdk rfl) ?_
        refine rj_vJ (fun done vals w hR hcl hdk hJ hdn hd => v_load zk (hd 4 rfl) (by first | exact (hJ.at0 hcl hdk ⟨_, _, rfl, rfl, by decide⟩).pv 1 _ rfl | exact (HPp.keep hR (by intro h; (try dsimp only at h); (try simp only [add_block] at h); first | omega)) 1 _ rfl | exact pv_1 (HPp.keep hR (by intro h; (try dsimp only at h); (try simp only [add_block] at h); first | omega)) | exact (HPq.keep hR (by intro h; (try dsimp only at h); (try simp only [add_block] at h); first | omega)) 1 _ rfl | exact pv_1 (HPq.keep hR (by intro h; (try dsimp only at h); (try simp only [add_block] at h); first | omega)) | exact (HB4.keep hR dj4).pv 1 _ rfl | exact (HB2.keep hR dj4).pv 1 _ rfl | assumption)) (fun done vals w hdk hJ => hJ.src (Keep.refl _) hdk rfl) ?_
        refine rj_vJ (fun done vals w hR hcl hdk hJ hdn hd => v_fieldAddr (off := 1) (ft := 22) zk rfl) (fun done vals w hdk hJ => hJ.src (Keep.refl _) hdk rfl) ?_
        refine rj_vJ (fun done vals w hR hcl hdk hJ hdn hd => v_load zk (hd 6 rfl) (by first | exact (hJ.at0 hcl hdk ⟨_, _, rfl, rfl, by decide⟩).pv 1 _ rfl | exact (HPp.keep hR (by intro h; (try dsimp only at h); (try simp only [add_block] at h); first | omega)) 1 _ rfl | exact pv_1 (HPp.keep hR (by intro h; (try dsimp only at h); (try simp only [add_block] at h); first | omega)) | exact (HPq.keep hR (by intro h; (try dsimp only at h); (try simp only [add_block] at h); first | omega)) 1 _ rfl | exact pv_1 (HPq.keep hR (by intro h; (try dsimp only at h); (try simp only [add_block] at h); first | omega)) | exact (HB4.keep hR dj4).pv 1 _ rfl | exact (HB2.keep hR dj4).pv 1 _ rfl | assumption)) (fun done vals w hdk hJ => hJ.src (Keep.refl _) hdk rfl) ?_
        refine rj_vJ (fun done vals w hR hcl hdk hJ hdn hd => zmI rfl) (fun done vals w hdk hJ => hJ.src (Keep.refl _) hdk rfl) ?_
        refine rj_vJ (fun done vals w hR hcl hdk hJ hdn hd => v_indexAddr (et := 63) (sz := 4) (k := i) zk zk (hd 7 rfl) (hd 8 rfl) (rfl) (hlt)) (fun done vals w hdk hJ => hJ.src (Keep.refl _) hdk rfl) ?_
        refine rj_vJ (fun done vals w hR hcl hdk hJ hdn hd => v_fieldAddr (off := 2) (ft := 4) zk (hd 9 rfl)) (fun done vals w hdk hJ => hJ.src (Keep.refl _) hdk rfl) ?_
        refine rj_vJ (fun done vals w hR hcl hdk hJ hdn hd => v_load zk (hd 10 rfl) (by first | exact (hJ.at0 hcl hdk ⟨_, _, rfl, rfl, by decide⟩).pv 2 _ rfl | exact (HPp.keep hR (by intro h; (try dsimp only at h); (try simp only [add_block] at h); first | omega)) 2 _ rfl | exact pv_1 (HPp.keep hR (by intro h; (try dsimp only at h); (try simp only [add_block] at h); first | omega)) | exact (HPq.keep hR (by intro h; (try dsimp only at h); (try simp only [add_block] at h); first | omega)) 2 _ rfl | exact pv_1 (HPq.keep hR (by intro h; (try dsimp only at h); (try simp only [add_block] at h); first | omega)) | exact (HB4.keep hR dj4).pv 2 _ rfl | exact (HB2.keep hR dj4).pv 2 _ rfl | assumption)) (fun done vals w hdk hJ => hJ.src (Keep.refl _) hdk rfl) ?_
        refine rj_vJ (fun done vals w hR hcl hdk hJ hdn hd => v_fieldAddr (off := 1) (ft := 33) zk rfl) (fun done vals w hdk hJ => hJ.src (Keep.refl _) hdk rfl) ?_
        refine rj_d (fun done vals w hR hcl hdk hJ hdn hd => to_store (hd 12 rfl) rfl rfl (by first | exact SlV.one (hd 5 rfl) | exact SlV.one (hd 5 rfl).1 | exact OwV.one (hd 5 rfl) | exact OwV.one (hd 5 rfl).1 | (have h := hd 5 rfl; dsimp only [setS] at h; rw [h]; rfl) | exact (hd 5 rfl).1 | (obtain ⟨_, h⟩ := hd 5 rfl; rw [h]; rfl) | exact (congrArg Value.oneCell' (hd 5 rfl)).trans rfl) zk (hJ.at (n := 0) rfl hdk (fun m h => by cases h)) (by rw [conts_len]; first | exact of_decide_eq_true rfl | (rw [hlen]; exact of_decide_eq_true rfl)) (fun w1 hB k z => ⟨k, hJ.step (n := 0) rfl hdk (fun m h => by cases h) (fun k h => by cases h; exact hdn 5 rfl) (once_st rfl) rfl hB⟩)) ?_
        refine rj_nil (fun vals w110 k110 J110 => ?_)
        rintro _ - rfl _ - rfl _ - rfl _ - rfl _ - rfl _ qs5 rfl _ - rfl _ - rfl _ - rfl _ - rfl _ - rfl _ - rfl _ - rfl _ - -
        have zs_k110 := k110.size
        have HX110 := J110.fin
        simp only [conts, sv, ← qs5] at HX110
        replace E := E.step k110 dj3
        replace HG1 := HG1.keep k110 dj1
        replace HS2 := HS2.keep k110 dj1
        replace HSr := HSr.keep k110 dj1
        replace HB2 := HB2.keep k110 dj4
        replace HB4 := HB4.keep k110 dj4
        replace HPq := HPq.keep k110 (by intro h; (try dsimp only at h); (try simp only [add_block] at h); first | omega)
        replace HPp := HPp.keep k110 (by intro h; (try dsimp only at h); (try simp only [add_block] at h); first | omega)
        replace HG5 := HG5.keep k110 dj1
        replace HG6 := HG6.keep k110 dj1
        replace HS6 := HS6.keep k110 dj1
        replace HS7 := HS7.keep k110 dj1
        replace HS8 := HS8.keep k110 dj1
        replace HS9 := HS9.keep k110 dj1
        replace HB10 := HX110
        clear HX110
        try simp only [zS, Nat.zero_add, Nat.reduceAdd, List.drop_nil] at HB10
        refine fin_nilJ (n_then (r_cut 1 rfl zd zd zd ?_))
        refine r_one zd rfl ?_
        refine l_v (v_fieldAddr (off := 2) (ft := 4) zk rfl) (l_nil (n_then (r_one zd rfl ?_)))
        refine l_to (to_store rfl rfl (zvB rfl) rfl zk HB10 dj5 ?_)
        rintro w111 HX111 k111 z111
        have zs_k111 := k111.size
        replace E := E.step k111 dj3
        replace HG1 := HG1.keep k111 dj1
        replace HS2 := HS2.keep k111 dj1
        replace HSr := HSr.keep k111 dj1
        replace HB2 := HB2.keep k111 dj4
        replace HB4 := HB4.keep k111 dj4
        replace HPq := HPq.keep k111 (by intro h; (try dsimp only at h); (try simp only [add_block] at h); first | omega)
        replace HPp := HPp.keep k111 (by intro h; (try dsimp only at h); (try simp only [add_block] at h); first | omega)
        replace HG5 := HG5.keep k111 dj1
        replace HG6 := HG6.keep k111 dj1
        replace HS6 := HS6.keep k111 dj1
        replace HS7 := HS7.keep k111 dj1
        replace HS8 := HS8.keep k111 dj1
        replace HS9 := HS9.keep k111 dj1
        replace HB10 := HX111
        clear HX111
        try simp only [zS, Nat.zero_add, Nat.reduceAdd, List.drop_nil] at HB10
        refine l_nil (n_then (c_seq (wp_any zk ?_)))
        have e112 : Ext w111 { w111 with drawn := w111.drawn + 1 } := Keep.drawn _ _
        generalize hw112 : ({ w111 with drawn := w111.drawn + 1 } : World) = w112 at e112 ⊢
        clear hw112
        have zs_e112 := e112.size
        replace E := E.trans (Ext.keep e112)
        replace HG1 := HG1.ext e112
        replace HS2 := HS2.ext e112
        replace HSr := HSr.ext e112
        replace HB2 := HB2.ext e112
        replace HB4 := HB4.ext e112
        replace HPq := HPq.ext e112
        replace HPp := HPp.ext e112
        replace HG5 := HG5.ext e112
        replace HG6 := HG6.ext e112
        replace HS6 := HS6.ext e112
        replace HS7 := HS7.ext e112
        replace HS8 := HS8.ext e112
        replace HS9 := HS9.ext e112
        replace HB10 := HB10.ext e112
        refine r_cut 15 rfl zd zd zd ?_
        refine wp_regdW (NoK) zd zd ?_
        refine rt_v (fun vals w hR hd => v_loadA zk rfl (by first | exact (HB10.ext hR).pv | exact (HPp.ext hR) | exact (HPq.ext hR) | exact (HB4.ext hR).pv | exact (HB2.ext hR).pv | assumption) rfl) ?_
        refine rt_v (fun vals w hR hd => v_fieldAddr (off := 1) (ft := 22) zk rfl) ?_
        refine rt_v (fun vals w hR hd => v_load zk (hd 1 rfl) (by first | exact (HB10.ext hR).pv 1 _ rfl | exact (HPp.ext hR) 1 _ rfl | exact pv_1 (HPp.ext hR) | exact (HPq.ext hR) 1 _ rfl | exact pv_1 (HPq.ext hR) | exact (HB4.ext hR).pv 1 _ rfl | exact (HB2.ext hR).pv 1 _ rfl | assumption)) ?_
        refine rt_v (fun vals w hR hd => zmI rfl) ?_
        refine rt_v (fun vals w hR hd => v_sub (hd 3 rfl) rfl (by first | exact wr_i64 zo zo | rfl)) ?_
        refine rt_v (fun vals w hR hd => v_slice (et := 63) (sz := 4) (l := 0) (h := i - 1) zk zk (hd 2 rfl) rfl ⟨.i64, ((hd 4 rfl)).trans (congrArg (Value.int _) zo)⟩ zo zo) ?_
        refine rt_v (fun vals w hR hd => v_loadA zk rfl (by first | exact (HB10.ext hR).pv | exact (HPp.ext hR) | exact (HPq.ext hR) | exact (HB4.ext hR).pv | exact (HB2.ext hR).pv | assumption) rfl) ?_
        refine rt_to (fun v W => SlV tRg W AllB v [(p.1, r.2.1, r.2.2.1, p.2.2.2)]) (fun v w w' h k => h.ext k) (fun vals w hR hd => to_slice1 (t := tRg) (et := 63) (bytes := 64) zk zq (hd 6 rfl) (tRg_mk (HS8.ext hR).allB (HS7.ext hR).allB hg2) (fun b w1 hb HO e z => ⟨e, HO.view.allB⟩)) ?_
        refine rt_v (fun vals w hR hd => v_fieldAddr (off := 1) (ft := 22) zk rfl) ?_
        refine rt_v (fun vals w hR hd => v_load zk (hd 8 rfl) (by first | exact (HB10.ext hR).pv 1 _ rfl | exact (HPp.ext hR) 1 _ rfl | exact pv_1 (HPp.ext hR) | exact (HPq.ext hR) 1 _ rfl | exact pv_1 (HPq.ext hR) | exact (HB4.ext hR).pv 1 _ rfl | exact (HB2.ext hR).pv 1 _ rfl | assumption)) ?_
        refine rt_v (fun vals w hR hd => zmI rfl) ?_
        refine rt_v (fun vals w hR hd => v_add (hd 10 rfl) rfl (by first | exact wr_i64 zo zo | rfl)) ?_
        refine rt_v (fun vals w hR hd => v_slice (et := 63) (sz := 4) (l := i + 1) (h := rs.length) zk zk (hd 9 rfl) ⟨.i64, ((hd 11 rfl)).trans (congrArg (Value.int _) zo)⟩ rfl zo zo) ?_
        refine rt_to (fun v W => SlV (tSl tRg) W AllB v [(rs.take (i - 1)).drop 0, [(p.1, r.2.1, r.2.2.1, p.2.2.2)], (rs.take rs.length).drop (i + 1)]) (fun v w w' h k => h.ext k) (fun vals w hR hd => to_slice3c (t := tSl tRg) (et := 22) (bytes := 24) (z := .slice none 0 0) zk rfl (by unfold kZeros; kernel_rfl) (hd 5 rfl) (show _ = vals 7 from rfl) (hd 12 rfl) rfl (SlV.one (hd 7 rfl)) rfl ⟨_, rfl, ((HSr.ext hR).sub (l := 0) (h := i - 1) zo zo).allB⟩ ⟨_, rfl, hd 7 rfl⟩ ⟨_, rfl, ((HSr.ext hR).sub (l := i + 1) (h := rs.length) zo zo).allB⟩ (fun b w1 hb HO e z => ⟨e, HO.view.allB⟩)) ?_
        have hfl : [(rs.take (i - 1)).drop 0, [(p.1, r.2.1, r.2.2.1, p.2.2.2)], (rs.take rs.length).drop (i + 1)].flatten = rs.take (i - 1) ++ [(p.1, r.2.1, r.2.2.1, p.2.2.2)] ++ rs.drop (i + 1) := by simp
        refine rt_to (fun v W => SlV tRg W AllB v [(rs.take (i - 1)).drop 0, [(p.1, r.2.1, r.2.2.1, p.2.2.2)], (rs.take rs.length).drop (i + 1)].flatten) (fun v w w' h k => h.ext k) (fun vals w hR hd => to_f1 zk (show _ = vals 13 from rfl) (CallsR.mono (Concat_c (hd 13 rfl) (by simp) (by simp; omega)) fun v w1 ⟨h, e⟩ => ⟨e, h.allB⟩)) ?_
        refine rt_nil (fun w113 e113 => ?_)
        rintro _ rfl _ rfl _ rfl _ rfl _ rfl _ rfl _ rfl v46 HS46 _ rfl _ rfl _ rfl _ rfl _ rfl v52 HS52 v53 HS53
        have zs_e113 := e113.size
        rw [hfl] at HS53
        obtain ⟨a53, c53, rfl⟩ := HS53.shape
        replace E := E.trans (Ext.keep e113)
        replace HG1 := HG1.ext e113
        replace HS2 := HS2.ext e113
        replace HSr := HSr.ext e113
        replace HB2 := HB2.ext e113
        replace HB4 := HB4.ext e113
        replace HPq := HPq.ext e113
        replace HPp := HPp.ext e113
        replace HG5 := HG5.ext e113
        replace HG6 := HG6.ext e113
        replace HS6 := HS6.ext e113
        replace HS7 := HS7.ext e113
        replace HS8 := HS8.ext e113
        replace HS9 := HS9.ext e113
        replace HB10 := HB10.ext e113
        refine fin_nil (n_then (r_cut 1 rfl zd zd zd ?_))
        refine r_one zd rfl ?_
        refine l_to (to_f2 zk (zvA rfl) (zvS rfl) (CallsR.mono (next_c HS53 zo (by simp; omega) (fun s hs => by rcases List.mem_append.1 hs with hs | hs; (rcases List.mem_append.1 hs with hs | hs; (have := hlens s (List.mem_of_mem_take hs); omega); (simp only [List.mem_cons, List.not_mem_nil, or_false] at hs; rcases hs with rfl <;> (dsimp only; omega))); (have := hlens s (List.mem_of_mem_drop hs); omega))) ?_))
        rintro _ w20 ⟨⟨y, rfl, HG10⟩, e20⟩
        have zs_e20 := e20.size
        obtain ⟨a10, c10, rfl, HS10, he10⟩ := HG10.mp
        replace E := E.trans (Ext.keep e20)
        replace HG1 := HG1.ext e20
        replace HS2 := HS2.ext e20
        replace HSr := HSr.ext e20
        replace HB2 := HB2.ext e20
        replace HB4 := HB4.ext e20
        replace HPq := HPq.ext e20
        replace HPp := HPp.ext e20
        replace HG5 := HG5.ext e20
        replace HG6 := HG6.ext e20
        replace HS6 := HS6.ext e20
        replace HS7 := HS7.ext e20
        replace HS8 := HS8.ext e20
        replace HS9 := HS9.ext e20
        replace HB10 := HB10.ext e20
        replace HS46 := HS46.ext e20
        replace HS52 := HS52.ext e20
        replace HS53 := HS53.ext e20
        refine l_nil (n_then (r_cut 2 rfl zd zd zd ?_))
        refine wp_regdW (NoK) zd zd ?_
        refine rt_v (fun vals w hR hd => v_extract (t := .agg _) rfl rfl) ?_
        refine rt_v (fun vals w hR hd => v_extract (t := .int _ _) rfl rfl) ?_
        refine rt_nil (fun w114 e114 => ?_)
        rintro _ rfl _ rfl
        have zs_e114 := e114.size
        replace E := E.trans (Ext.keep e114)
        replace HG1 := HG1.ext e114
        replace HS2 := HS2.ext e114
        replace HSr := HSr.ext e114
        replace HB2 := HB2.ext e114
        replace HB4 := HB4.ext e114
        replace HPq := HPq.ext e114
        replace HPp := HPp.ext e114
        replace HG5 := HG5.ext e114
        replace HG6 := HG6.ext e114
        replace HS6 := HS6.ext e114
        replace HS7 := HS7.ext e114
        replace HS8 := HS8.ext e114
        replace HS9 := HS9.ext e114
        replace HB10 := HB10.ext e114
        replace HG10 := HG10.ext e114
        replace HS10 := HS10.ext e114
        refine fin_nil (n_then (r_cut 1 rfl zd zd zd ?_))
        refine r_one zd rfl ?_
        refine l_to (to_storeA (n := 2) rfl rfl (zvA rfl) zk rfl dj6 HB4 dj5 ?_)
        rintro w115 HX115 k115 z115
        have zs_k115 := k115.size
        replace E := E.step k115 dj3
        replace HG1 := HG1.keep k115 dj1
        replace HS2 := HS2.keep k115 dj1
        replace HSr := HSr.keep k115 dj1
        replace HB2 := HB2.keep k115 dj4
        replace HPq := HPq.keep k115 (by intro h; (try dsimp only at h); (try simp only [add_block] at h); first | omega)
        replace HPp := HPp.keep k115 (by intro h; (try dsimp only at h); (try simp only [add_block] at h); first | omega)
        replace HG5 := HG5.keep k115 dj1
        replace HG6 := HG6.keep k115 dj1
        replace HS6 := HS6.keep k115 dj1
        replace HS7 := HS7.keep k115 dj1
        replace HS8 := HS8.keep k115 dj1
        replace HS9 := HS9.keep k115 dj1
        replace HB10 := HB10.keep k115 dj4
        replace HG10 := HG10.keep k115 dj1
        replace HS10 := HS10.keep k115 dj1
        replace HB4 := HX115
        clear HX115
        try simp only [zS, Nat.zero_add, Nat.reduceAdd, List.drop_nil] at HB4
        refine l_nil (n_then (r_one zd rfl ?_))
        refine l_v (zaI rfl) (l_nil (n_then (c_ret (ret2cv (n := 2) rfl zq zq rfl zk HB4.pv rfl (zvI rfl) ?_))))
        rw [hspl]
        exact ⟨⟨_, rfl, HG10.mono fun b _ h => by omega⟩, E⟩
end Go.Proofs.Yteehplloacefmaa
