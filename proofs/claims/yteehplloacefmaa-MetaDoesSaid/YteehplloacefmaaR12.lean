/- A part of the proof: steps and lemmas for the walks through the given program. -/
import Derived.Test.YteehplloacefmaaR11
namespace Go.Proofs.Yteehplloacefmaa
open Go.Vc
set_option linter.unusedVariables false
set_option linter.unusedSimpArgs false
set_option maxRecDepth 100000

theorem Give_c {w : World} {F G : Nat → Prop} {v kv : Value} {e g : Int} {rs : List RgV} {k : List UInt8} (HG1 : AgV tMp w F v (e, rs)) (HS2 : Bv w G kv k) : CallsR Try.prog 67 #[v, kv, .int .i64 g] w (fun o w' => (∃ x, o = .tuple #[x, .int .i64 (giveM (e, rs) k g).2] ∧ AgV tMp w' (fun b => w.heap.size ≤ b) x (giveM (e, rs) k g).1) ∧ Ext w w') := by
  obtain ⟨a, c, rfl, HSr, he⟩ := HG1.mp
  obtain ⟨a3, c3, rfl⟩ := HS2.shape
  simp only at HSr he
  have hmx := HS2.len_max
  refine enter 55 Try.func67 rfl rfl (by simp) ?_
  refine c_seq ?_
  have E := Keep.refl (K := NoK) w
  replace HG1 := HG1.all
  replace HS2 := HS2.all
  replace HSr := HSr.all
  refine wp_reg zd (l_to (to_box (zvA rfl) ?_))
  rintro b2 w2 zb2 HB2 e2 z2
  have zs_e2 := e2.size
  replace E := E.trans (Ext.keep e2)
  replace HG1 := HG1.ext e2
  replace HS2 := HS2.ext e2
  replace HSr := HSr.ext e2
  try simp only [Value.cells] at HB2
  refine l_to (to_alloc (z := (.agg #[.int .i64 0, .slice none 0 0])) (by unfold kZero; kernel_rfl) ?_)
  rintro b4 w4 zb4 HB4 e4 z4
  have zs_e4 := e4.size
  replace E := E.trans (Ext.keep e4)
  replace HG1 := HG1.ext e4
  replace HS2 := HS2.ext e4
  replace HSr := HSr.ext e4
  replace HB2 := HB2.ext e4
  try simp only [Value.cells] at HB4
  refine l_v (v_assign rfl) (l_nil (n_then (c_seq (wp_reg zd (l_v (v_loadA zk rfl (by first | exact HB4.pv | exact HB2.pv | assumption) rfl) ?_)))))
  refine l_v (zmS rfl) (l_to (to_f2 zk (zvA rfl) (zvS rfl) (CallsR.mono (begins_c HG1 HS2) ?_)))
  rintro _ w101 ⟨rfl, e101⟩
  have zs_e101 := e101.size
  replace E := E.trans (Ext.keep e101)
  replace HG1 := HG1.ext e101
  replace HS2 := HS2.ext e101
  replace HSr := HSr.ext e101
  replace HB2 := HB2.ext e101
  replace HB4 := HB4.ext e101
  refine l_v (zaI rfl) (l_nil (n_then (c_seq (c_block (c_seq (wp_reg zd (l_v (v_loadA zk rfl (by first | exact HB4.pv | exact HB2.pv | assumption) rfl) ?_)))))))
  refine l_to (to_f1 zk (zvA rfl) (CallsR.mono (May_c HG1) ?_))
  rintro _ w102 ⟨rfl, e102⟩
  have zs_e102 := e102.size
  replace E := E.trans (Ext.keep e102)
  replace HG1 := HG1.ext e102
  replace HS2 := HS2.ext e102
  replace HSr := HSr.ext e102
  replace HB2 := HB2.ext e102
  replace HB4 := HB4.ext e102
  refine l_v (v_not rfl) ?_
  refine l_v (zmB rfl) (l_g1 rfl rfl (fun hG => zmI rfl) (l_g1f rfl rfl (fun hG => to_f1 zk (gd hG rfl) (group_c)) ?_))
  rintro w103 e103
  have zs_e103 := e103.size
  replace E := E.trans (Ext.keep e103)
  replace HG1 := HG1.ext e103
  replace HS2 := HS2.ext e103
  replace HSr := HSr.ext e103
  replace HB2 := HB2.ext e103
  replace HB4 := HB4.ext e103
  refine l_g1 rfl rfl (fun hG => v_not (gd hG rfl)) ?_
  refine l_v (v_or rfl rfl) ?_
  refine l_v (zmB rfl) (l_g1 rfl rfl (fun hG => zmS rfl) (l_g1 rfl rfl (fun hG => v_len (et := 5) zk (gd hG rfl)) ?_))
  refine l_g1 rfl rfl (fun hG => v_gtr (gd hG rfl) rfl) ?_
  refine l_v (v_or rfl rfl) ?_
  refine l_v (zaB rfl) (l_nil (n_then (c_cond rfl rfl (fun hc => ?_) (fun hc => ?_))))
  · skip
    refine c_seq (wp_reg zd (l_v (v_build (pl := [(0, 1), (1, 1)]) (z := .agg #[.int .i64 0, .slice none 0 0]) (zl := [.int .i64 0, .slice none 0 0]) zk (by unfold kZero; kernel_rfl) rfl rfl (cells := [_, _]) rfl) ?_))
    refine l_to (to_storeA (n := 2) rfl rfl (zvA rfl) zk rfl dj6 HB4 dj5 ?_)
    rintro w104 HX104 k104 z104
    have zs_k104 := k104.size
    replace E := E.step k104 dj3
    replace HG1 := HG1.keep k104 dj1
    replace HS2 := HS2.keep k104 dj1
    replace HSr := HSr.keep k104 dj1
    replace HB2 := HB2.keep k104 dj4
    replace HB4 := HX104
    clear HX104
    try simp only [zS, Nat.zero_add, Nat.reduceAdd, List.drop_nil] at HB4
    refine l_v (v_assign rfl) (l_nil (n_then (c_ret (r_blk (r_then (ret2cv (n := 2) rfl zq zq rfl zk HB4.pv rfl (zvI rfl) ?_))))))
    have h : (mayM (e, rs) && grpB g && decide (k.length ≤ 24)) = false := by
      have h3 : decide ((24 : Int) < (k.length : Int)) = !decide (k.length ≤ 24) := by rw [← decide_not]; exact decide_eq_decide.2 zo
      rw [h3] at hc; revert hc; cases mayM (e, rs) <;> cases grpB g <;> cases decide (k.length ≤ 24) <;> simp
    rw [giveM, if_pos h]
    exact ⟨⟨_, rfl, AgV.mkMp (SlV.nil _ _ _) zo⟩, E⟩
  · skip
    have hall : mayM (e, rs) = true ∧ grpB g = true ∧ decide (k.length ≤ 24) = true := by
      have h3 : decide ((24 : Int) < (k.length : Int)) = !decide (k.length ≤ 24) := by rw [← decide_not]; exact decide_eq_decide.2 zo
      rw [h3] at hc; revert hc; cases mayM (e, rs) <;> cases grpB g <;> cases decide (k.length ≤ 24) <;> simp
    obtain ⟨hm, hgb, hkl⟩ := hall
    have hnf : ¬ (mayM (e, rs) && grpB g && decide (k.length ≤ 24)) = false := by rw [hm, hgb, hkl]; simp
    have hgr0 := grpB_range hgb
    refine c_seq (wp_reg zd (l_v (zmI rfl) (l_v (v_lss rfl rfl) ?_)))
    refine l_v (zaB rfl) (l_nil (n_then (c_cond rfl rfl (fun hb => ?_) (fun hb => ?_))))
    · skip
      refine c_seq (wp_reg zd (l_v (v_build (pl := [(0, 1), (1, 1)]) (z := .agg #[.int .i64 0, .slice none 0 0]) (zl := [.int .i64 0, .slice none 0 0]) zk (by unfold kZero; kernel_rfl) rfl rfl (cells := [_, _]) rfl) ?_))
      refine l_to (to_storeA (n := 2) rfl rfl (zvA rfl) zk rfl dj6 HB4 dj5 ?_)
      rintro w105 HX105 k105 z105
      have zs_k105 := k105.size
      replace E := E.step k105 dj3
      replace HG1 := HG1.keep k105 dj1
      replace HS2 := HS2.keep k105 dj1
      replace HSr := HSr.keep k105 dj1
      replace HB2 := HB2.keep k105 dj4
      replace HB4 := HX105
      clear HX105
      try simp only [zS, Nat.zero_add, Nat.reduceAdd, List.drop_nil] at HB4
      refine l_v (v_assign rfl) (l_nil (n_then (c_ret (r_blk (r_then (ret2cv (n := 2) rfl zq zq rfl zk HB4.pv rfl (zvI rfl) ?_))))))
      have h := optI_neg.1 (dtrue hb)
      rw [giveM, if_neg hnf, h]
      exact ⟨⟨_, rfl, AgV.mkMp (SlV.nil _ _ _) zo⟩, E⟩
    · skip
      obtain ⟨i, hi⟩ : ∃ i, findO (e, rs) (begB k) = some i := by
        cases h : findO (e, rs) (begB k) with
        | none => rw [h] at hb; simp [optI] at hb
        | some i => exact ⟨i, rfl⟩
      obtain ⟨_, hlt, _⟩ := findO_at hi
      simp only at hlt
      obtain ⟨hp1, hp2, _, hp4, _, _⟩ := mayM_parts hm
      simp only at hp1 hp2 hp4
      have hlens := mayM_lens hm
      simp only at hlens
      have hoi : optI (some i) = (i : Int) := rfl
      obtain ⟨q, cs, hq, hF, hqb, HPq, hr⟩ := HSr.el (getD_at hlt)
      subst hq
      obtain ⟨hl1, hl2, hgr⟩ := hlens _ (getD_mem (l := rs) hlt)
      obtain ⟨r, hrr⟩ : ∃ r, r = rs.getD i rg0 := ⟨_, rfl⟩
      have hel : rs[i]? = some r := by rw [hrr]; exact getD_at hlt
      rw [← hrr] at hr hl1 hl2 hgr
      obtain ⟨b5, d5, b6, d6, rfl, _, _, hg⟩ := tRg_cells hr
      have hspl : giveM (e, rs) k g = if r.2.2.2 = g then (mp0, 9) else nextM e (rs.set i (r.1, r.2.1, r.2.2.1, g)) := by rw [giveM, if_neg hnf, hi, hrr]
      rw [hi, hoi]
      refine c_seq (wp_reg zd (l_v (v_fieldAddr (off := 1) (ft := 22) zk rfl) (l_v (v_load zk rfl (by first | exact HPq 1 _ rfl | exact pv_1 HPq | exact HB4.pv 1 _ rfl | exact HB2.pv 1 _ rfl | assumption)) ?_)))
      refine l_v (zmI rfl) (l_v (v_indexAddr (et := 63) (sz := 4) (k := i) zk zk rfl rfl (rfl) (hlt)) ?_)
      refine l_v (v_fieldAddr (off := 3) (ft := 3) zk rfl) (l_v (v_load zk rfl (by first | exact HPq 3 _ rfl | exact pv_1 HPq | exact HB4.pv 3 _ rfl | exact HB2.pv 3 _ rfl | assumption)) ?_)
      refine l_v (zmI rfl) (l_v (v_eql rfl rfl) ?_)
      refine l_v (zaB rfl) (l_nil (n_then (c_cond rfl rfl (fun hn => ?_) (fun hn => ?_))))
      · skip
        refine c_seq (wp_reg zd (l_v (v_build (pl := [(0, 1), (1, 1)]) (z := .agg #[.int .i64 0, .slice none 0 0]) (zl := [.int .i64 0, .slice none 0 0]) zk (by unfold kZero; kernel_rfl) rfl rfl (cells := [_, _]) rfl) ?_))
        refine l_to (to_storeA (n := 2) rfl rfl (zvA rfl) zk rfl dj6 HB4 dj5 ?_)
        rintro w106 HX106 k106 z106
        have zs_k106 := k106.size
        replace E := E.step k106 dj3
        replace HG1 := HG1.keep k106 dj1
        replace HS2 := HS2.keep k106 dj1
        replace HSr := HSr.keep k106 dj1
        replace HB2 := HB2.keep k106 dj4
        replace HPq := HPq.keep k106 (by intro h; (try dsimp only at h); (try simp only [add_block] at h); first | omega)
        replace HB4 := HX106
        clear HX106
        try simp only [zS, Nat.zero_add, Nat.reduceAdd, List.drop_nil] at HB4
        refine l_v (v_assign rfl) (l_nil (n_then (c_ret (r_blk (r_then (ret2cv (n := 2) rfl zq zq rfl zk HB4.pv rfl (zvI rfl) ?_))))))
        rw [hspl, if_pos (by simpa using hn)]
        exact ⟨⟨_, rfl, AgV.mkMp (SlV.nil _ _ _) zo⟩, E⟩
      · skip
        rw [if_neg (by simpa using hn)] at hspl
        refine c_skip (n_blk (n_then (c_seq (wp_reg zd (l_v (v_fieldAddr (off := 1) (ft := 22) zk rfl) (l_v (v_load zk rfl (by first | exact HPq 1 _ rfl | exact pv_1 HPq | exact HB4.pv 1 _ rfl | exact HB2.pv 1 _ rfl | assumption)) ?_))))))
        refine l_to (to_f1 zk (zvS rfl) (CallsR.mono (CloneS_c HSr zo) ?_))
        rintro v9 w9 ⟨HO9, e9⟩
        have zs_e9 := e9.size
        obtain ⟨a9, c9, rfl⟩ := HO9.shape
        obtain ⟨b9, rfl, hb9, hb9'⟩ := HO9.addr (fun h => by rw [h] at hlt; simp at hlt)
        replace E := E.trans (Ext.keep e9)
        replace HG1 := HG1.ext e9
        replace HS2 := HS2.ext e9
        replace HSr := HSr.ext e9
        replace HB2 := HB2.ext e9
        replace HB4 := HB4.ext e9
        replace HPq := HPq.ext e9
        have zo_HO9 := fun (b : Nat) h => HO9.own_lt (b := b) h
        refine l_v (zaS rfl) (l_nil (n_then (c_seq (wp_reg zd (l_v (zmS rfl) (l_v (zmI rfl) (l_v (zmI rfl) (l_v (v_indexAddr (et := 63) (sz := 4) (k := i) zk zk rfl rfl (rfl) (hlt)) ?_))))))))
        refine l_v (v_fieldAddr (off := 3) (ft := 3) zk rfl) (l_to (to_storeO (k := i) (off := 3) rfl (by rw [show tRg.sz = 4 from rfl]; simp [add_lit]) (by first | decide | exact (of_decide_eq_true rfl : 3 < 2)) (zvI rfl) rfl zk HO9 (x1 := (r.1, r.2.1, r.2.2.1, g)) hel (fun cs h => by obtain ⟨a1, c1, a2, c2, rfl, h1, h2, _⟩ := tRg_cells h; exact tRg_mk h1 h2 zo) ?_))
        rintro w11 HO11 k11 z11
        have zs_k11 := k11.size
        replace E := E.step k11 dj3
        replace HG1 := HG1.keep k11 dj1
        replace HS2 := HS2.keep k11 dj1
        replace HSr := HSr.keep k11 dj1
        replace HB2 := HB2.keep k11 dj4
        replace HB4 := HB4.keep k11 dj4
        replace HPq := HPq.keep k11 (by intro h; (try dsimp only at h); (try simp only [add_block] at h); first | omega)
        have zo_HO11 := fun (b : Nat) h => HO11.own_lt (b := b) h
        refine l_nil (n_then (c_seq (wp_reg zd (l_v (v_loadA zk rfl (by first | exact HPq | exact HB4.pv | exact HB2.pv | assumption) rfl) ?_))))
        refine l_v (zmS rfl) (l_to (to_f2 zk (zvA rfl) (zvS rfl) (CallsR.mono (next_c HO11.view zo (by simp; omega) (fun s hs => by rcases List.mem_or_eq_of_mem_set hs with hs | rfl; (have := hlens s hs; omega); (dsimp only; omega))) ?_)))
        rintro _ w20 ⟨⟨y, rfl, HG10⟩, e20⟩
        have zs_e20 := e20.size
        obtain ⟨a10, c10, rfl, HS10, he10⟩ := HG10.mp
        replace E := E.trans (Ext.keep e20)
        replace HG1 := HG1.ext e20
        replace HS2 := HS2.ext e20
        replace HSr := HSr.ext e20
        replace HB2 := HB2.ext e20
        replace HB4 := HB4.ext e20
        replace HPq := HPq.ext e20
        replace HO11 := HO11.ext e20
        refine l_v (v_extract (t := .agg _) rfl rfl) (l_v (v_extract (t := .int _ _) rfl rfl) (l_to (to_storeA (n := 2) rfl rfl (zvA rfl) zk rfl dj6 HB4 dj5 ?_)))
        rintro w107 HX107 k107 z107
        have zs_k107 := k107.size
        replace E := E.step k107 dj3
        replace HG1 := HG1.keep k107 dj1
        replace HS2 := HS2.keep k107 dj1
        replace HSr := HSr.keep k107 dj1
        replace HB2 := HB2.keep k107 dj4
        replace HPq := HPq.keep k107 (by intro h; (try dsimp only at h); (try simp only [add_block] at h); first | omega)
        replace HG10 := HG10.keep k107 dj1
        replace HS10 := HS10.keep k107 dj1
        replace HB4 := HX107
        clear HX107
        try simp only [zS, Nat.zero_add, Nat.reduceAdd, List.drop_nil] at HB4
        refine l_v (zaI rfl) (l_nil (n_then (c_ret (ret2cv (n := 2) rfl zq zq rfl zk HB4.pv rfl (zvI rfl) ?_))))
        rw [hspl]
        exact ⟨⟨_, rfl, HG10.mono fun b _ h => by omega⟩, E⟩
end Go.Proofs.Yteehplloacefmaa
