/- A part of the proof: steps and lemmas for the walks through the given program. -/
import Derived.Test.YteehplloacefmaaGs
namespace Go.Proofs.Yteehplloacefmaa
open Go.Vc
set_option linter.unusedVariables false
set_option linter.unusedSimpArgs false
set_option maxRecDepth 100000

theorem nc_le {α : Type} {t : Ty α} {w : World} {F : Nat → Prop} {a : Option Addr} {n c : Nat} {xs : List α} (h : SlV t w F (.slice a n c) xs) : xs.length ≤ c := by
  obtain ⟨a', c', hv, h1, _⟩ := h
  cases hv; exact h1

theorem Split_c {w : World} {F G : Nat → Prop} {v kv : Value} {e : Int} {rs : List RgV} {k : List UInt8} (HG1 : AgV tMp w F v (e, rs)) (HS2 : Bv w G kv k) : CallsR Try.prog 31 #[v, kv] w (fun o w' => (∃ x, o = .tuple #[x, .int .i64 (splitM (e, rs) k).2] ∧ AgV tMp w' (fun b => w.heap.size ≤ b) x (splitM (e, rs) k).1) ∧ Ext w w') := by
  obtain ⟨a, c, rfl, HSr, he⟩ := HG1.mp
  obtain ⟨a3, c3, rfl⟩ := HS2.shape
  simp only at HSr he
  have hrc := nc_le HSr
  refine enter 57 Try.func31 rfl rfl (by simp) ?_
  refine c_seq ?_
  have E := Keep.refl (K := NoK) w
  replace HG1 := HG1.all
  replace HS2 := HS2.all
  replace HSr := HSr.all
  refine wp_reg zd (l_to (to_box (zvA rfl) ?_))
  rintro b2 w2 zb2 HB2 e2 z2
  have zs_e2 := e2.size
  replace E := E.trans (Ext.keep e2)
  replace HG1 := HG1.ext e2
  replace HS2 := HS2.ext e2
  replace HSr := HSr.ext e2
  try simp only [Value.cells] at HB2
  refine l_to (to_alloc (z := (.agg #[.int .i64 0, .slice none 0 0])) (by unfold kZero; kernel_rfl) ?_)
  rintro b4 w4 zb4 HB4 e4 z4
  have zs_e4 := e4.size
  replace E := E.trans (Ext.keep e4)
  replace HG1 := HG1.ext e4
  replace HS2 := HS2.ext e4
  replace HSr := HSr.ext e4
  replace HB2 := HB2.ext e4
  try simp only [Value.cells] at HB4
  refine l_v (v_assign rfl) (l_nil (n_then (c_seq (c_block (c_seq (wp_reg zd (l_v (v_loadA zk rfl (by first | exact HB4.pv | exact HB2.pv | assumption) rfl) ?_)))))))
  refine l_to (to_f1 zk (zvA rfl) (CallsR.mono (May_c HG1) ?_))
  rintro _ w101 ⟨rfl, e101⟩
  have zs_e101 := e101.size
  replace E := E.trans (Ext.keep e101)
  replace HG1 := HG1.ext e101
  replace HS2 := HS2.ext e101
  replace HSr := HSr.ext e101
  replace HB2 := HB2.ext e101
  replace HB4 := HB4.ext e101
  refine l_v (v_not rfl) ?_
  refine l_v (zmB rfl) (l_g1 rfl rfl (fun hG => zmS rfl) (l_g1f rfl rfl (fun hG => to_f1 zk (gd hG rfl) (key_c HS2)) ?_))
  rintro w102 e102
  have zs_e102 := e102.size
  replace E := E.trans (Ext.keep e102)
  replace HG1 := HG1.ext e102
  replace HS2 := HS2.ext e102
  replace HSr := HSr.ext e102
  replace HB2 := HB2.ext e102
  replace HB4 := HB4.ext e102
  refine l_g1 rfl rfl (fun hG => v_not (gd hG rfl)) ?_
  refine l_v (v_or rfl rfl) ?_
  refine l_v (zaB rfl) (l_nil (n_then (c_cond rfl rfl (fun hc => ?_) (fun hc => ?_))))
  · skip
    refine c_seq (wp_reg zd (l_v (v_build (pl := [(0, 1), (1, 1)]) (z := .agg #[.int .i64 0, .slice none 0 0]) (zl := [.int .i64 0, .slice none 0 0]) zk (by unfold kZero; kernel_rfl) rfl rfl (cells := [_, _]) rfl) ?_))
    refine l_to (to_storeA (n := 2) rfl rfl (zvA rfl) zk rfl dj6 HB4 dj5 ?_)
    rintro w103 HX103 k103 z103
    have zs_k103 := k103.size
    replace E := E.step k103 dj3
    replace HG1 := HG1.keep k103 dj1
    replace HS2 := HS2.keep k103 dj1
    replace HSr := HSr.keep k103 dj1
    replace HB2 := HB2.keep k103 dj4
    replace HB4 := HX103
    clear HX103
    try simp only [zS, Nat.zero_add, Nat.reduceAdd, List.drop_nil] at HB4
    refine l_v (v_assign rfl) (l_nil (n_then (c_ret (r_blk (r_then (ret2cv (n := 2) rfl zq zq rfl zk HB4.pv rfl (zvI rfl) ?_))))))
    have h : (mayM (e, rs) && keyB k) = false := by revert hc; rw [keyB]; cases mayM (e, rs) <;> cases decide (1 ≤ k.length) <;> cases decide (k.length ≤ 24) <;> simp
    rw [splitM, if_pos h]
    exact ⟨⟨_, rfl, AgV.mkMp (SlV.nil _ _ _) zo⟩, E⟩
  · skip
    have hmk : (mayM (e, rs) && keyB k) = true := by revert hc; rw [keyB]; cases mayM (e, rs) <;> cases decide (1 ≤ k.length) <;> cases decide (k.length ≤ 24) <;> simp
    have hm : mayM (e, rs) = true := by revert hmk; cases mayM (e, rs) <;> simp
    have hkk : keyB k = true := by revert hmk; cases mayM (e, rs) <;> simp
    have hnf : ¬ (mayM (e, rs) && keyB k) = false := by rw [hmk]; simp
    have h24 : k.length ≤ 24 := by simp only [keyB, Bool.and_eq_true, decide_eq_true_eq] at hkk; exact hkk.2
    refine c_seq (wp_reg zd (l_v (v_loadA zk rfl (by first | exact HB4.pv | exact HB2.pv | assumption) rfl) ?_))
    refine l_v (zmS rfl) (l_to (to_f2 zk (zvA rfl) (zvS rfl) (CallsR.mono (begins_c HG1 HS2) ?_)))
    rintro _ w104 ⟨rfl, e104⟩
    have zs_e104 := e104.size
    replace E := E.trans (Ext.keep e104)
    replace HG1 := HG1.ext e104
    replace HS2 := HS2.ext e104
    replace HSr := HSr.ext e104
    replace HB2 := HB2.ext e104
    replace HB4 := HB4.ext e104
    refine l_v (v_geq rfl rfl) ?_
    refine l_v (zaB rfl) (l_nil (n_then (c_cond rfl rfl (fun hb => ?_) (fun hb => ?_))))
    · skip
      refine c_seq (wp_reg zd (l_v (v_build (pl := [(0, 1), (1, 1)]) (z := .agg #[.int .i64 0, .slice none 0 0]) (zl := [.int .i64 0, .slice none 0 0]) zk (by unfold kZero; kernel_rfl) rfl rfl (cells := [_, _]) rfl) ?_))
      refine l_to (to_storeA (n := 2) rfl rfl (zvA rfl) zk rfl dj6 HB4 dj5 ?_)
      rintro w105 HX105 k105 z105
      have zs_k105 := k105.size
      replace E := E.step k105 dj3
      replace HG1 := HG1.keep k105 dj1
      replace HS2 := HS2.keep k105 dj1
      replace HSr := HSr.keep k105 dj1
      replace HB2 := HB2.keep k105 dj4
      replace HB4 := HX105
      clear HX105
      try simp only [zS, Nat.zero_add, Nat.reduceAdd, List.drop_nil] at HB4
      refine l_v (v_assign rfl) (l_nil (n_then (c_ret (r_blk (r_then (ret2cv (n := 2) rfl zq zq rfl zk HB4.pv rfl (zvI rfl) ?_))))))
      have h : (findO (e, rs) (begB k)).isSome = true := by
        cases hf : findO (e, rs) (begB k) with
        | none => rw [hf] at hb; simp [optI] at hb
        | some i => rfl
      rw [splitM, if_neg hnf, if_pos h]
      exact ⟨⟨_, rfl, AgV.mkMp (SlV.nil _ _ _) zo⟩, E⟩
    · skip
      have hnb : ¬ (findO (e, rs) (begB k)).isSome = true := by
        cases hf : findO (e, rs) (begB k) with
        | none => simp
        | some i => rw [hf] at hb; simp [optI] at hb
      obtain ⟨i, hi, hlt⟩ := has_some hm k
      simp only at hlt
      obtain ⟨hp1, hp2, _, hp4, _, _⟩ := mayM_parts hm
      simp only at hp1 hp2 hp4
      have hlens := mayM_lens hm
      simp only at hlens
      obtain ⟨hl1, hl2, hgr⟩ := hlens _ (getD_mem (l := rs) hlt)
      refine c_skip (n_blk (n_then (c_seq (wp_reg zd (l_v (v_loadA zk rfl (by first | exact HB4.pv | exact HB2.pv | assumption) rfl) ?_)))))
      refine l_v (zmS rfl) (l_to (to_f2 zk (zvA rfl) (zvS rfl) (CallsR.mono (Find_c HG1 HS2) ?_)))
      rintro _ w5 ⟨⟨x, rfl, HG5⟩, e5⟩
      have zs_e5 := e5.size
      rw [hi] at HG5 ⊢
      have e1 : rgAt rs (some i) = rs.getD i rg0 := rfl
      have hoi : optI (some i) = (i : Int) := rfl
      rw [e1] at HG5
      rw [hoi]
      obtain ⟨r, hr⟩ : ∃ r, r = rs.getD i rg0 := ⟨_, rfl⟩
      rw [← hr] at HG5 hl1 hl2 hgr
      replace HG5 := HG5.all
      obtain ⟨a6, c6, a7, c7, rfl, HS6, HS7, hg6⟩ := HG5.rg
      replace E := E.trans (Ext.keep e5)
      replace HG1 := HG1.ext e5
      replace HS2 := HS2.ext e5
      replace HSr := HSr.ext e5
      replace HB2 := HB2.ext e5
      replace HB4 := HB4.ext e5
      have hspl : splitM (e, rs) k = nextM e (rs.take i ++ [(r.1, k, true, r.2.2.2), (k, r.2.1, r.2.2.1, r.2.2.2)] ++ rs.drop (i + 1)) := by rw [splitM, if_neg hnf, if_neg hnb, hi, hr]
      refine l_v (zmT rfl) (l_v (v_extract (t := .agg _) rfl rfl) (l_v (v_extract (t := .int _ _) rfl rfl) (l_to (to_alloc (z := (.agg #[.slice none 0 0, .slice none 0 0, .bool false, .int .i64 0])) (by unfold kZero; kernel_rfl) ?_))))
      rintro b6 w6 zb6 HB6 e6 z6
      have zs_e6 := e6.size
      replace E := E.trans (Ext.keep e6)
      replace HG1 := HG1.ext e6
      replace HS2 := HS2.ext e6
      replace HSr := HSr.ext e6
      replace HB2 := HB2.ext e6
      replace HB4 := HB4.ext e6
      replace HG5 := HG5.ext e6
      replace HS6 := HS6.ext e6
      replace HS7 := HS7.ext e6
      try simp only [Value.cells] at HB6
      refine l_to (to_storeA (n := 4) rfl rfl (zvA rfl) zk rfl dj6 HB6 dj5 ?_)
      rintro w106 HX106 k106 z106
      have zs_k106 := k106.size
      replace E := E.step k106 dj3
      replace HG1 := HG1.keep k106 dj1
      replace HS2 := HS2.keep k106 dj1
      replace HSr := HSr.keep k106 dj1
      replace HB2 := HB2.keep k106 dj4
      replace HB4 := HB4.keep k106 dj4
      replace HG5 := HG5.keep k106 dj1
      replace HS6 := HS6.keep k106 dj1
      replace HS7 := HS7.keep k106 dj1
      replace HB6 := HX106
      clear HX106
      try simp only [zS, Nat.zero_add, Nat.reduceAdd, List.drop_nil] at HB6
      refine l_v (zaI rfl) (l_nil (n_then (c_seq (wp_any zk ?_))))
      have e107 : Ext w106 { w106 with drawn := w106.drawn + 1 } := Keep.drawn _ _
      generalize hw107 : ({ w106 with drawn := w106.drawn + 1 } : World) = w107 at e107 ⊢
      clear hw107
      have zs_e107 := e107.size
      replace E := E.trans (Ext.keep e107)
      replace HG1 := HG1.ext e107
      replace HS2 := HS2.ext e107
      replace HSr := HSr.ext e107
      replace HB2 := HB2.ext e107
      replace HB4 := HB4.ext e107
      replace HG5 := HG5.ext e107
      replace HS6 := HS6.ext e107
      replace HS7 := HS7.ext e107
      replace HB6 := HB6.ext e107
      refine r_cut 5 rfl zd zd zd ?_
      refine wp_regJW (fun k => w107.heap.size ≤ k) (AlJ w107.heap.size [⟨2, some 4, 63, ([.slice none 0 0, .slice none 0 0, .bool false, .int .i64 0] : List Value), ([.slice a6 r.1.length c6, .slice a7 r.2.1.length c7, .bool r.2.2.1, .int .i64 r.2.2.2] : List Value)⟩, ⟨3, none, 63, ([.slice none 0 0, .slice none 0 0, .bool false, .int .i64 0] : List Value), ([.slice none 0 0, .slice none 0 0, .bool false, .int .i64 0] : List Value)⟩]) zd zd (fun vals done hd => AlJ.start (Nat.le_refl _) (fun a ha => hd a.al (al_lt (n := 5) rfl a ha))) ?_
      refine rj_vJ (fun done vals w hR hcl hdk hJ hdn hd => v_loadA zk rfl (by first | exact (HB6.keep hR dj4).pv | exact (HB4.keep hR dj4).pv | exact (HB2.keep hR dj4).pv | assumption) rfl) (fun done vals w hdk hJ => hJ.src (Keep.refl _) rfl) ?_
      refine rj_vJ (fun done vals w hR hcl hdk hJ hdn hd => v_loadA zk rfl (by first | exact (HB6.keep hR dj4).pv | exact (HB4.keep hR dj4).pv | exact (HB2.keep hR dj4).pv | assumption) rfl) (fun done vals w hdk hJ => hJ.src (Keep.refl _) rfl) ?_
      refine rj_d (fun done vals w hR hcl hdk hJ hdn hd => to_alloc (z := .agg #[.slice none 0 0, .slice none 0 0, .bool false, .int .i64 0]) (by unfold kZero; kernel_rfl) fun b w1 hb hB e hz => ⟨Ext.keep e, hJ.al (i := 0) rfl rfl hdk hcl (fun m a hm he => alOne_al (i := 0) (m := m) rfl rfl hm he) (fun a ha => alSt_ne rfl ha (List.mem_of_getElem? (i := 0) rfl)) (fun s hs => by cases hs; exact ⟨_, rfl, rfl⟩) hb hB e⟩) ?_
      refine rj_d (fun done vals w hR hcl hdk hJ hdn hd => to_alloc (z := .agg #[.slice none 0 0, .slice none 0 0, .bool false, .int .i64 0]) (by unfold kZero; kernel_rfl) fun b w1 hb hB e hz => ⟨Ext.keep e, hJ.al (i := 1) rfl rfl hdk hcl (fun m a hm he => alOne_al (i := 1) (m := m) rfl rfl hm he) (fun a ha => alSt_ne rfl ha (List.mem_of_getElem? (i := 1) rfl)) (fun s hs => by cases hs) hb hB e⟩) ?_
      refine rj_d (fun done vals w hR hcl hdk hJ hdn hd => by
          obtain ⟨b, hb, hn, hB⟩ := hJ.at (i := 0) rfl rfl hdk (hdn 2 rfl)
          exact to_storeA (n := 4) (hb : _ = Value.pointer (some ⟨b, 0, none⟩)) rfl (hd 0 rfl) zk rfl (by first | (simp [slice_one]; done) | (simp only [List.forall_mem_cons, List.cons_append, List.nil_append]; repeat' (first | exact rfl | apply And.intro | (intro u hu; cases hu; done)))) hB (of_decide_eq_true rfl) (fun w1 hB1 kk z => ⟨kk.mono (fun i _ h => by rw [h]; exact hn), hJ.st (i := 0) rfl rfl hdk (hdn 2 rfl) (fun m a hm he => alOne_st (i := 0) (m := m) rfl rfl hm rfl he) (fun a ha h => alSt_ne (a := _) rfl (List.mem_of_getElem? (i := 0) rfl) ha (by rw [h])) rfl (fun m a hm he => alOne_al (i := 0) (m := m) rfl rfl hm he) hb hB1 kk⟩)) ?_
      refine rj_nil (fun vals w108 k108 J108 => ?_)
      rintro _ - rfl _ - rfl v8 qv8 - v9 qv9 - _ - -
      have zs_k108 := k108.size
      obtain ⟨b8, hb8, zb8, HB8⟩ := J108.fin (i := 0) rfl
      try dsimp only at HB8
      have zl8 := HB8.lt
      obtain ⟨b9, hb9, zb9, HB9⟩ := J108.fin (i := 1) rfl
      try dsimp only at HB9
      have zl9 := HB9.lt
      have ne8_9 := J108.ne (i := 0) (m := 1) rfl rfl (by dsimp only; decide) hb8 hb9
      obtain rfl := qv8.trans hb8
      obtain rfl := qv9.trans hb9
      replace E := E.step k108 dj3
      replace HG1 := HG1.keep k108 dj1
      replace HS2 := HS2.keep k108 dj1
      replace HSr := HSr.keep k108 dj1
      replace HB2 := HB2.keep k108 dj4
      replace HB4 := HB4.keep k108 dj4
      replace HG5 := HG5.keep k108 dj1
      replace HS6 := HS6.keep k108 dj1
      replace HS7 := HS7.keep k108 dj1
      replace HB6 := HB6.keep k108 dj4
      refine fin_nilJ (n_then (r_one zd rfl ?_))
      refine l_to (to_storeA (n := 4) rfl rfl (zvA rfl) zk rfl dj6 HB9 dj5 ?_)
      rintro w109 HX109 k109 z109
      have zs_k109 := k109.size
      replace E := E.step k109 dj3
      replace HG1 := HG1.keep k109 dj1
      replace HS2 := HS2.keep k109 dj1
      replace HSr := HSr.keep k109 dj1
      replace HB2 := HB2.keep k109 dj4
      replace HB4 := HB4.keep k109 dj4
      replace HG5 := HG5.keep k109 dj1
      replace HS6 := HS6.keep k109 dj1
      replace HS7 := HS7.keep k109 dj1
      replace HB6 := HB6.keep k109 dj4
      replace HB8 := HB8.keep k109 dj4
      replace HB9 := HX109
      clear HX109
      try simp only [zS, Nat.zero_add, Nat.reduceAdd, List.drop_nil] at HB9
      refine l_nil (n_then (c_seq (wp_reg zd (l_v (zmS rfl) (l_v (zmS rfl) (l_v (v_fieldAddr (off := 1) (ft := 33) zk rfl) (l_to (to_store rfl rfl (zvS rfl) rfl zk HB8 dj5 ?_))))))))
      rintro w110 HX110 k110 z110
      have zs_k110 := k110.size
      replace E := E.step k110 dj3
      replace HG1 := HG1.keep k110 dj1
      replace HS2 := HS2.keep k110 dj1
      replace HSr := HSr.keep k110 dj1
      replace HB2 := HB2.keep k110 dj4
      replace HB4 := HB4.keep k110 dj4
      replace HG5 := HG5.keep k110 dj1
      replace HS6 := HS6.keep k110 dj1
      replace HS7 := HS7.keep k110 dj1
      replace HB6 := HB6.keep k110 dj4
      replace HB9 := HB9.keep k110 dj4
      replace HB8 := HX110
      clear HX110
      try simp only [zS, Nat.zero_add, Nat.reduceAdd, List.drop_nil] at HB8
      refine l_v (v_fieldAddr (off := 2) (ft := 4) zk rfl) (l_to (to_store rfl rfl (zvB rfl) rfl zk HB8 dj5 ?_))
      rintro w111 HX111 k111 z111
      have zs_k111 := k111.size
      replace E := E.step k111 dj3
      replace HG1 := HG1.keep k111 dj1
      replace HS2 := HS2.keep k111 dj1
      replace HSr := HSr.keep k111 dj1
      replace HB2 := HB2.keep k111 dj4
      replace HB4 := HB4.keep k111 dj4
      replace HG5 := HG5.keep k111 dj1
      replace HS6 := HS6.keep k111 dj1
      replace HS7 := HS7.keep k111 dj1
      replace HB6 := HB6.keep k111 dj4
      replace HB9 := HB9.keep k111 dj4
      replace HB8 := HX111
      clear HX111
      try simp only [zS, Nat.zero_add, Nat.reduceAdd, List.drop_nil] at HB8
      refine l_v (v_fieldAddr (off := 0) (ft := 33) zk rfl) (l_to (to_store rfl rfl (zvS rfl) rfl zk HB9 dj5 ?_))
      rintro w112 HX112 k112 z112
      have zs_k112 := k112.size
      replace E := E.step k112 dj3
      replace HG1 := HG1.keep k112 dj1
      replace HS2 := HS2.keep k112 dj1
      replace HSr := HSr.keep k112 dj1
      replace HB2 := HB2.keep k112 dj4
      replace HB4 := HB4.keep k112 dj4
      replace HG5 := HG5.keep k112 dj1
      replace HS6 := HS6.keep k112 dj1
      replace HS7 := HS7.keep k112 dj1
      replace HB6 := HB6.keep k112 dj4
      replace HB8 := HB8.keep k112 dj4
      replace HB9 := HX112
      clear HX112
      try simp only [zS, Nat.zero_add, Nat.reduceAdd, List.drop_nil] at HB9
      refine l_nil (n_then (c_seq (wp_any zk ?_)))
      have e113 : Ext w112 { w112 with drawn := w112.drawn + 1 } := Keep.drawn _ _
      generalize hw113 : ({ w112 with drawn := w112.drawn + 1 } : World) = w113 at e113 ⊢
      clear hw113
      have zs_e113 := e113.size
      replace E := E.trans (Ext.keep e113)
      replace HG1 := HG1.ext e113
      replace HS2 := HS2.ext e113
      replace HSr := HSr.ext e113
      replace HB2 := HB2.ext e113
      replace HB4 := HB4.ext e113
      replace HG5 := HG5.ext e113
      replace HS6 := HS6.ext e113
      replace HS7 := HS7.ext e113
      replace HB6 := HB6.ext e113
      replace HB8 := HB8.ext e113
      replace HB9 := HB9.ext e113
      refine r_cut 15 rfl zd zd zd ?_
      refine wp_regdW (NoK) zd zd ?_
      refine rt_v (fun vals w hR hd => v_loadA zk rfl (by first | exact (HB9.ext hR).pv | exact (HB8.ext hR).pv | exact (HB6.ext hR).pv | exact (HB4.ext hR).pv | exact (HB2.ext hR).pv | assumption) rfl) ?_
      refine rt_v (fun vals w hR hd => v_fieldAddr (off := 1) (ft := 22) zk rfl) ?_
      refine rt_v (fun vals w hR hd => v_load zk (hd 1 rfl) (by first | exact (HB9.ext hR).pv 1 _ rfl | exact (HB8.ext hR).pv 1 _ rfl | exact (HB6.ext hR).pv 1 _ rfl | exact (HB4.ext hR).pv 1 _ rfl | exact (HB2.ext hR).pv 1 _ rfl | assumption)) ?_
      refine rt_v (fun vals w hR hd => zmI rfl) ?_
      refine rt_v (fun vals w hR hd => v_slice (et := 63) (sz := 4) (l := 0) (h := i) zk zk (hd 2 rfl) rfl ⟨.i64, ((hd 3 rfl)).trans (congrArg (Value.int _) zo)⟩ zo zo) ?_
      refine rt_v (fun vals w hR hd => v_loadA zk rfl (by first | exact (HB9.ext hR).pv | exact (HB8.ext hR).pv | exact (HB6.ext hR).pv | exact (HB4.ext hR).pv | exact (HB2.ext hR).pv | assumption) rfl) ?_
      refine rt_v (fun vals w hR hd => v_loadA zk rfl (by first | exact (HB9.ext hR).pv | exact (HB8.ext hR).pv | exact (HB6.ext hR).pv | exact (HB4.ext hR).pv | exact (HB2.ext hR).pv | assumption) rfl) ?_
      refine rt_to (fun v W => SlV tRg W AllB v [(r.1, k, true, r.2.2.2), (k, r.2.1, r.2.2.1, r.2.2.2)]) (fun v w w' h k => h.ext k) (fun vals w hR hd => to_sliceN (t := tRg) (et := 63) (bytes := 64) (zl := [.slice none 0 0, .slice none 0 0, .bool false, .int .i64 0, .slice none 0 0, .slice none 0 0, .bool false, .int .i64 0]) (cells := [_, _, _, _, _, _, _, _]) zk zq zq (by unfold kZeros; kernel_rfl) (parts2 (hd 5 rfl) (hd 6 rfl)) rfl rfl rfl (reps2 (tRg_mk (HS6.ext hR).allB (HS2.ext hR).allB hg6) (tRg_mk (HS2.ext hR).allB (HS7.ext hR).allB hg6)) (fun b w1 hb HO e z => ⟨e, HO.view.allB⟩)) ?_
      refine rt_v (fun vals w hR hd => v_fieldAddr (off := 1) (ft := 22) zk rfl) ?_
      refine rt_v (fun vals w hR hd => v_load zk (hd 8 rfl) (by first | exact (HB9.ext hR).pv 1 _ rfl | exact (HB8.ext hR).pv 1 _ rfl | exact (HB6.ext hR).pv 1 _ rfl | exact (HB4.ext hR).pv 1 _ rfl | exact (HB2.ext hR).pv 1 _ rfl | assumption)) ?_
      refine rt_v (fun vals w hR hd => zmI rfl) ?_
      refine rt_v (fun vals w hR hd => v_add (hd 10 rfl) rfl (by first | exact wr_i64 zo zo | rfl)) ?_
      refine rt_v (fun vals w hR hd => v_slice (et := 63) (sz := 4) (l := i + 1) (h := rs.length) zk zk (hd 9 rfl) ⟨.i64, ((hd 11 rfl)).trans (congrArg (Value.int _) zo)⟩ rfl zo zo) ?_
      refine rt_to (fun v W => SlV (tSl tRg) W AllB v [(rs.take i).drop 0, [(r.1, k, true, r.2.2.2), (k, r.2.1, r.2.2.1, r.2.2.2)], (rs.take rs.length).drop (i + 1)]) (fun v w w' h k => h.ext k) (fun vals w hR hd => to_slice3c (t := tSl tRg) (et := 22) (bytes := 24) (z := .slice none 0 0) zk rfl (by unfold kZeros; kernel_rfl) (hd 4 rfl) (show _ = vals 7 from rfl) (hd 12 rfl) rfl (SlV.one (hd 7 rfl)) rfl ⟨_, rfl, ((HSr.ext hR).sub (l := 0) (h := i) zo zo).allB⟩ ⟨_, rfl, hd 7 rfl⟩ ⟨_, rfl, ((HSr.ext hR).sub (l := i + 1) (h := rs.length) zo zo).allB⟩ (fun b w1 hb HO e z => ⟨e, HO.view.allB⟩)) ?_
      have hfl : [(rs.take i).drop 0, [(r.1, k, true, r.2.2.2), (k, r.2.1, r.2.2.1, r.2.2.2)], (rs.take rs.length).drop (i + 1)].flatten = rs.take i ++ [(r.1, k, true, r.2.2.2), (k, r.2.1, r.2.2.1, r.2.2.2)] ++ rs.drop (i + 1) := by simp
      refine rt_to (fun v W => SlV tRg W AllB v [(rs.take i).drop 0, [(r.1, k, true, r.2.2.2), (k, r.2.1, r.2.2.1, r.2.2.2)], (rs.take rs.length).drop (i + 1)].flatten) (fun v w w' h k => h.ext k) (fun vals w hR hd => to_f1 zk (show _ = vals 13 from rfl) (CallsR.mono (Concat_c (hd 13 rfl) (by simp) (by simp; omega)) fun v w1 ⟨h, e⟩ => ⟨e, h.allB⟩)) ?_
      refine rt_nil (fun w114 e114 => ?_)
      rintro _ rfl _ rfl _ rfl _ rfl _ rfl _ rfl _ rfl v46 HS46 _ rfl _ rfl _ rfl _ rfl _ rfl v52 HS52 v53 HS53
      have zs_e114 := e114.size
      rw [hfl] at HS53
      obtain ⟨a53, c53, rfl⟩ := HS53.shape
      replace E := E.trans (Ext.keep e114)
      replace HG1 := HG1.ext e114
      replace HS2 := HS2.ext e114
      replace HSr := HSr.ext e114
      replace HB2 := HB2.ext e114
      replace HB4 := HB4.ext e114
      replace HG5 := HG5.ext e114
      replace HS6 := HS6.ext e114
      replace HS7 := HS7.ext e114
      replace HB6 := HB6.ext e114
      replace HB8 := HB8.ext e114
      replace HB9 := HB9.ext e114
      refine fin_nil (n_then (r_cut 1 rfl zd zd zd ?_))
      refine r_one zd rfl ?_
      refine l_to (to_f2 zk (zvA rfl) (zvS rfl) (CallsR.mono (next_c HS53 zo (by simp; omega) (fun s hs => by rcases List.mem_append.1 hs with hs | hs; (rcases List.mem_append.1 hs with hs | hs; (have := hlens s (List.mem_of_mem_take hs); omega); (simp only [List.mem_cons, List.not_mem_nil, or_false] at hs; rcases hs with rfl | rfl <;> (dsimp only; omega))); (have := hlens s (List.mem_of_mem_drop hs); omega))) ?_))
      rintro _ w10 ⟨⟨y, rfl, HG10⟩, e10⟩
      have zs_e10 := e10.size
      obtain ⟨a10, c10, rfl, HS10, he10⟩ := HG10.mp
      replace E := E.trans (Ext.keep e10)
      replace HG1 := HG1.ext e10
      replace HS2 := HS2.ext e10
      replace HSr := HSr.ext e10
      replace HB2 := HB2.ext e10
      replace HB4 := HB4.ext e10
      replace HG5 := HG5.ext e10
      replace HS6 := HS6.ext e10
      replace HS7 := HS7.ext e10
      replace HB6 := HB6.ext e10
      replace HB8 := HB8.ext e10
      replace HB9 := HB9.ext e10
      replace HS46 := HS46.ext e10
      replace HS52 := HS52.ext e10
      replace HS53 := HS53.ext e10
      refine l_nil (n_then (r_cut 2 rfl zd zd zd ?_))
      refine wp_regdW (NoK) zd zd ?_
      refine rt_v (fun vals w hR hd => v_extract (t := .agg _) rfl rfl) ?_
      refine rt_v (fun vals w hR hd => v_extract (t := .int _ _) rfl rfl) ?_
      refine rt_nil (fun w115 e115 => ?_)
      rintro _ rfl _ rfl
      have zs_e115 := e115.size
      replace E := E.trans (Ext.keep e115)
      replace HG1 := HG1.ext e115
      replace HS2 := HS2.ext e115
      replace HSr := HSr.ext e115
      replace HB2 := HB2.ext e115
      replace HB4 := HB4.ext e115
      replace HB6 := HB6.ext e115
      replace HB8 := HB8.ext e115
      replace HB9 := HB9.ext e115
      replace HG10 := HG10.ext e115
      replace HS10 := HS10.ext e115
      refine fin_nil (n_then (r_cut 1 rfl zd zd zd ?_))
      refine r_one zd rfl ?_
      refine l_to (to_storeA (n := 2) rfl rfl (zvA rfl) zk rfl dj6 HB4 dj5 ?_)
      rintro w116 HX116 k116 z116
      have zs_k116 := k116.size
      replace E := E.step k116 dj3
      replace HG1 := HG1.keep k116 dj1
      replace HS2 := HS2.keep k116 dj1
      replace HSr := HSr.keep k116 dj1
      replace HB2 := HB2.keep k116 dj4
      replace HB6 := HB6.keep k116 dj4
      replace HB8 := HB8.keep k116 dj4
      replace HB9 := HB9.keep k116 dj4
      replace HG10 := HG10.keep k116 dj1
      replace HS10 := HS10.keep k116 dj1
      replace HB4 := HX116
      clear HX116
      try simp only [zS, Nat.zero_add, Nat.reduceAdd, List.drop_nil] at HB4
      refine l_nil (n_then (r_one zd rfl ?_))
      refine l_v (zaI rfl) (l_nil (n_then (c_ret (ret2cv (n := 2) rfl zq zq rfl zk HB4.pv rfl (zvI rfl) ?_))))
      rw [hspl]
      exact ⟨⟨_, rfl, HG10.mono fun b _ h => by omega⟩, E⟩
end Go.Proofs.Yteehplloacefmaa
