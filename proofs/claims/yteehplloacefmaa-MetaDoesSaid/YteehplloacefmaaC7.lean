/- A part of the proof: steps and lemmas for the walks through the given program. -/
import Derived.Test.YteehplloacefmaaCb
import Derived.Test.YteehplloacefmaaCz
namespace Go.Proofs.Yteehplloacefmaa
open Go.Vc
set_option linter.unusedVariables false
set_option linter.unusedSimpArgs false
set_option maxRecDepth 100000

theorem nmd_none {k g : Int} {rq : RqV} {mv : MvV} {en : List IkV} {an key : List UInt8} (h1 : ¬ k = 1) (h2 : ¬ k = 2) (h3 : ¬ k = 3) (h5 : ¬ k = 5) (h9 : ¬ k = 9) (h10 : ¬ k = 10) (h4 : ¬ k = 4) (h6 : ¬ k = 6) (h7 : ¬ k = 7) (h8 : ¬ k = 8) :
    nmdC (k, rq, mv, en, an, key, g) = ((k, rq0, mv0, [], [], [], 0), false) := by
  simp [nmdC, h1, h2, h3, h4, h5, h6, h7, h8, h9, h10]
set_option maxHeartbeats 8000000 in
theorem named_c {w : World} {F : Nat → Prop} {v : Value} {c : CmV} (HG0 : AgV tCm w F v c) : CallsR Try.prog 39 #[v] w (fun o w' => (∃ u, o = .tuple #[u, .bool (nmdC c).2] ∧ AgV tCm w' (fun b => b < w.heap.size) u (nmdC c).1) ∧ Ext w w') := by
 obtain ⟨k, rq, mv, en, an, key, g⟩ := c
 obtain ⟨a1, c1, a2, c2, a3, c3, a4, c4, a5, c5, a6, c6, a7, c7, a8, c8, a9, c9, rfl, HG1, HG2, HSe, HSa, HSk, hik, hig⟩ := HG0.cm
 clear HG0
 have hme := HSe.len_max
 have hma := HSa.len_max
 have hmk := HSk.len_max
 refine enter 95 Try.func39 rfl rfl (by simp) ?_
 refine c_seq ?_
 have E := Keep.refl (K := NoK) w
 replace HG1 := HG1.all
 replace HG2 := HG2.all
 replace HSe := HSe.all
 replace HSa := HSa.all
 replace HSk := HSk.all
 refine wp_reg zd (l_to (to_box (zvA rfl) ?_))
 rintro b1 w1 zb1 HB1 e1 z1
 have := e1.size
 try simp only [Value.cells] at HB1
 refine l_to (to_alloc (z := (.agg #[.int .i64 0, .int .i64 0, .int .i64 0, .int .i64 0, .slice none 0 0, .slice none 0 0, .slice none 0 0, .slice none 0 0, .bool false, .int .i64 0, .int .i64 0, .slice none 0 0, .slice none 0 0, .bool false, .int .i64 0, .int .i64 0, .slice none 0 0, .slice none 0 0, .slice none 0 0, .int .i64 0])) (by unfold kZero; kernel_rfl) ?_)
 rintro b2 w2 zb2 HB2 e2 z2
 have := e2.size
 try simp only [Value.cells] at HB2
 replace HB1 := HB1.ext e2
 refine l_v (v_assign rfl) (l_nil (n_then (c_seq (wp_reg zd (l_v (v_fieldAddr (off := 0) (ft := 31) zk rfl) (l_v (v_load zk rfl (by first | exact HB2.pv 0 _ rfl | exact HB1.pv 0 _ rfl | assumption)) ?_))))))
 refine l_v (v_build (pl := [(0, 1), (1, 9), (10, 6), (16, 1), (17, 1), (18, 1), (19, 1)]) (z := .agg #[.int .i64 0, .int .i64 0, .int .i64 0, .int .i64 0, .slice none 0 0, .slice none 0 0, .slice none 0 0, .slice none 0 0, .bool false, .int .i64 0, .int .i64 0, .slice none 0 0, .slice none 0 0, .bool false, .int .i64 0, .int .i64 0, .slice none 0 0, .slice none 0 0, .slice none 0 0, .int .i64 0]) (zl := [.int .i64 0, .int .i64 0, .int .i64 0, .int .i64 0, .slice none 0 0, .slice none 0 0, .slice none 0 0, .slice none 0 0, .bool false, .int .i64 0, .int .i64 0, .slice none 0 0, .slice none 0 0, .bool false, .int .i64 0, .int .i64 0, .slice none 0 0, .slice none 0 0, .slice none 0 0, .int .i64 0]) zk (by unfold kZero; kernel_rfl) rfl rfl (cells := [_, _, _, _, _, _, _, _, _, _, _, _, _, _, _, _, _, _, _, _]) rfl) ?_
 refine l_to (to_alloc (z := (.agg #[.int .i64 0, .int .i64 0, .int .i64 0, .int .i64 0, .slice none 0 0, .slice none 0 0, .slice none 0 0, .slice none 0 0, .bool false, .int .i64 0, .int .i64 0, .slice none 0 0, .slice none 0 0, .bool false, .int .i64 0, .int .i64 0, .slice none 0 0, .slice none 0 0, .slice none 0 0, .int .i64 0])) (by unfold kZero; kernel_rfl) ?_)
 rintro b4 w4 zb4 HB4 e4 z4
 have := e4.size
 try simp only [Value.cells] at HB4
 refine l_to (to_storeA (n := 20) rfl rfl (zvA rfl) zk rfl dj6 HB4 dj5 ?_)
 rintro w101 HX101 k101 z101
 have := k101.size
 replace HB4 := HX101
 clear HX101
 try simp only [zS, Nat.zero_add, Nat.reduceAdd, List.drop_nil] at HB4
 replace HB1 := (HB1.ext e4).keep k101 dj4
 replace HB2 := (HB2.ext e4).keep k101 dj4
 refine l_nil (n_then (c_seq (c_seq (wp_reg zd (l_v (v_fieldAddr (off := 0) (ft := 31) zk rfl) (l_v (v_load zk rfl (by first | exact HB4.pv 0 _ rfl | exact HB2.pv 0 _ rfl | exact HB1.pv 0 _ rfl | assumption)) ?_))))))
 refine l_nil (n_then (c_block (c_seq (wp_reg zd (l_v (v_eql rfl rfl) ?_)))))
 replace E := (((E.trans e1.keep).trans e2.keep).trans e4.keep).step k101 dj3
 replace HG1 := (((HG1.ext e1).ext e2).ext e4).keep k101 dj1
 replace HG2 := (((HG2.ext e1).ext e2).ext e4).keep k101 dj1
 replace HSe := (((HSe.ext e1).ext e2).ext e4).keep k101 dj1
 replace HSa := (((HSa.ext e1).ext e2).ext e4).keep k101 dj1
 replace HSk := (((HSk.ext e1).ext e2).ext e4).keep k101 dj1
 refine l_v (zaB rfl) (l_nil (n_then (c_cond rfl rfl (fun h1 => ?_) (fun h1 => ?_))))
 ·
  refine c_seq (wp_reg zd (l_v (v_loadA zk rfl (by first | exact HB4.pv | exact HB2.pv | exact HB1.pv | assumption) rfl) ?_))
  refine l_to (to_storeA (n := 20) rfl rfl (zvA rfl) zk rfl dj6 HB2 dj5 ?_)
  rintro w102 HX102 k102 z102
  have := k102.size
  replace HB2 := HX102
  clear HX102
  try simp only [zS, Nat.zero_add, Nat.reduceAdd, List.drop_nil] at HB2
  refine l_v (v_assign rfl) (l_nil (n_then (c_ret (r_blk (r_then (ret2cv (n := 20) rfl zq zq rfl zk HB2.pv rfl (zvB rfl) ?_))))))
  obtain rfl : k = 1 := dtrue h1
  replace E := E.step k102 dj3
  exact ⟨⟨_, rfl, AgV.mkCm hik rq0_ag mv0_ag (SlV.nil _ _ _) (SlV.nil _ _ _) (SlV.nil _ _ _) ⟨by decide, by decide⟩⟩, E⟩
 refine c_seq (wp_reg zd (l_v (v_eql rfl rfl) ?_))
 refine l_v (zaB rfl) (l_nil (n_then (c_cond rfl rfl (fun h2 => ?_) (fun h2 => ?_))))
 ·
  refine c_seq (wp_reg zd (l_v (v_fieldAddr (off := 1) (ft := 37) zk rfl) (l_v (v_loadA zk rfl (by first | exact (show Pv _ _ [_, _, _, _, _, _, _, _, _] from pv_sub 1 9 HB4.pv) | exact (show Pv _ _ [_, _, _, _, _, _, _, _, _] from pv_sub 1 9 HB2.pv) | exact (show Pv _ _ [_, _, _, _, _, _, _, _, _] from pv_sub 1 9 HB1.pv) | exact pv_at 1 HB4.pv | exact pv_at 1 HB2.pv | exact pv_at 1 HB1.pv | assumption) rfl) ?_)))
  refine l_v (v_fieldAddr (off := 1) (ft := 37) zk rfl) (l_to (to_storeA (n := 9) rfl rfl (zvA rfl) zk rfl dj6 HB4 dj5 ?_))
  rintro w103 HX103 k103 z103
  have := k103.size
  replace HB4 := HX103
  clear HX103
  try simp only [zS, Nat.zero_add, Nat.reduceAdd, List.drop_nil] at HB4
  replace HB2 := HB2.keep k103 dj4
  refine l_nil (n_then (c_seq (wp_regJ (fun k => k = b2) (BcJ b2 _ [4] [_, ([.int .i64 k, .int .i64 rq.1, .int .i64 rq.2.1, .int .i64 rq.2.2.1, .slice a1 rq.2.2.2.1.length c1, .slice a2 rq.2.2.2.2.1.length c2, .slice a3 rq.2.2.2.2.2.1.length c3, .slice a4 rq.2.2.2.2.2.2.1.length c4, .bool rq.2.2.2.2.2.2.2.1, .int .i64 rq.2.2.2.2.2.2.2.2, .int .i64 0, .slice none 0 0, .slice none 0 0, .bool false, .int .i64 0, .int .i64 0, .slice none 0 0, .slice none 0 0, .slice none 0 0, .int .i64 0] : List Value)]) zk zd zd (fun vals done hd => BcJ.start (HB2.ext (Keep.drawn _ _)) rfl (fun a ha => hd a (inA_lt (n := 6) rfl a ha))) ?_)))
  replace HB1 := HB1.keep k103 dj4
  refine rj_vJ (fun done vals w hR hcl hdk hJ hdn hd => v_loadA zk rfl (by first | exact (HB4.keep hR dj4).pv | exact (HB1.keep hR dj4).pv | assumption) rfl) (fun _ _ _ _ j => j.src (Keep.refl _) rfl) ?_
  refine rj_vJ (fun done vals w hR hcl hdk hJ hdn hd => v_fieldAddr (off := 1) (ft := 37) zk rfl) (fun _ _ _ _ j => j.src (Keep.refl _) rfl) ?_
  refine rj_vJ (fun done vals w hR hcl hdk hJ hdn hd => v_loadA zk (hd 1 rfl) (by first | exact (show Pv _ _ [_, _, _, _, _, _, _, _, _] from pv_sub 1 9 (HB4.keep hR dj4).pv) | exact (show Pv _ _ [_, _, _, _, _, _, _, _, _] from pv_sub 1 9 (HB1.keep hR dj4).pv) | exact pv_at 1 (HB4.keep hR dj4).pv | exact pv_at 1 (HB1.keep hR dj4).pv | assumption) rfl) (fun _ _ _ _ j => j.src (Keep.refl _) rfl) ?_
  replace HG1 := HG1.keep k103 dj1
  refine rj_vfJ (fun done vals w hR hcl hdk hJ hdn hd => to_f1 zk (hd 2 rfl) (MayRequest_c (HG1.keep hR dj1))) (fun done vals w w1 hdk hJ e => hJ.src e rfl) ?_
  replace E := E.step k103 dj3
  replace HG2 := HG2.keep k103 dj1
  replace HSe := HSe.keep k103 dj1
  replace HSa := HSa.keep k103 dj1
  replace HSk := HSk.keep k103 dj1
  refine rj_d (fun done vals w hR hcl hdk hJ hdn hd => by
    have h0 := hJ.at (n := 0) rfl hdk (fun m h => by cases h)
    try dsimp only [List.getD_cons_zero, List.getD_cons_succ] at h0
    exact to_storeA (n := 20) rfl rfl (hd 0 rfl) zk rfl (one_all (by rfl)) h0 (of_decide_eq_true rfl) (fun w1 hB1 kk z => ⟨kk, hJ.step (n := 0) rfl hdk (fun m h => by cases h) rfl hB1⟩)) ?_
  refine rj_vJ (fun done vals w hR hcl hdk hJ hdn hd => v_assign (t := .bool _) (hd 3 rfl)) (fun _ _ _ _ j => j.src (Keep.refl _) rfl) ?_
  refine rj_nil (fun vals w104 k104 J104 => ?_)
  rintro _ - rfl _ - rfl _ - rfl _ - rfl _ - - _ - rfl
  have := k104.size
  have HB2 : Blk w104 b2 [.int .i64 k, .int .i64 rq.1, .int .i64 rq.2.1, .int .i64 rq.2.2.1, .slice a1 rq.2.2.2.1.length c1, .slice a2 rq.2.2.2.2.1.length c2, .slice a3 rq.2.2.2.2.2.1.length c3, .slice a4 rq.2.2.2.2.2.2.1.length c4, .bool rq.2.2.2.2.2.2.2.1, .int .i64 rq.2.2.2.2.2.2.2.2, .int .i64 0, .slice none 0 0, .slice none 0 0, .bool false, .int .i64 0, .int .i64 0, .slice none 0 0, .slice none 0 0, .slice none 0 0, .int .i64 0] _ := BcJ.fin (n := 1) J104 rfl
  refine fin_nilJ (n_then (c_ret (r_blk (r_then (ret2cv (n := 20) rfl zq zq rfl zk HB2.pv rfl (zvB rfl) ?_)))))
  obtain rfl : k = 2 := dtrue h2
  replace E := E.step k104 dj3
  replace HG1 := HG1.keep k104 dj1
  exact ⟨⟨_, rfl, AgV.mkCm hik HG1 mv0_ag (SlV.nil _ _ _) (SlV.nil _ _ _) (SlV.nil _ _ _) ⟨by decide, by decide⟩⟩, E⟩
 refine c_seq (c_seq (wp_reg zd (l_v (v_eql rfl rfl) ?_)))
 refine l_v (zaB rfl) (l_nil (n_then (c_cond rfl rfl (fun h3 => ?_) (fun h3 => ?_))))
 ·
  refine c_skip (n_then (c_cond rfl rfl (fun hx => ?_) (fun hx => ?_)))
  ·
   refine c_seq (wp_reg zd (l_v (v_fieldAddr (off := 10) (ft := 39) zk rfl) (l_v (v_loadA zk rfl (by first | exact (show Pv _ _ [_, _, _, _, _, _] from pv_sub 10 6 HB4.pv) | exact (show Pv _ _ [_, _, _, _, _, _] from pv_sub 10 6 HB2.pv) | exact (show Pv _ _ [_, _, _, _, _, _] from pv_sub 10 6 HB1.pv) | exact pv_at 10 HB4.pv | exact pv_at 10 HB2.pv | exact pv_at 10 HB1.pv | assumption) rfl) ?_)))
   refine l_v (v_fieldAddr (off := 10) (ft := 39) zk rfl) (l_to (to_storeA (n := 6) rfl rfl (zvA rfl) zk rfl dj6 HB4 dj5 ?_))
   rintro w105 HX105 k105 z105
   have := k105.size
   replace HB4 := HX105
   clear HX105
   try simp only [zS, Nat.zero_add, Nat.reduceAdd, List.drop_nil] at HB4
   replace HB2 := HB2.keep k105 dj4
   refine l_nil (n_then (c_seq (wp_regJ (fun k => k = b2) (BcJ b2 _ [4] [_, ([.int .i64 k, .int .i64 0, .int .i64 0, .int .i64 0, .slice none 0 0, .slice none 0 0, .slice none 0 0, .slice none 0 0, .bool false, .int .i64 0, .int .i64 mv.1, .slice a5 mv.2.1.length c5, .slice a6 mv.2.2.1.length c6, .bool mv.2.2.2.1, .int .i64 mv.2.2.2.2.1, .int .i64 mv.2.2.2.2.2, .slice none 0 0, .slice none 0 0, .slice none 0 0, .int .i64 0] : List Value)]) zk zd zd (fun vals done hd => BcJ.start (HB2.ext (Keep.drawn _ _)) rfl (fun a ha => hd a (inA_lt (n := 6) rfl a ha))) ?_)))
   replace HB1 := HB1.keep k105 dj4
   refine rj_vJ (fun done vals w hR hcl hdk hJ hdn hd => v_loadA zk rfl (by first | exact (HB4.keep hR dj4).pv | exact (HB1.keep hR dj4).pv | assumption) rfl) (fun _ _ _ _ j => j.src (Keep.refl _) rfl) ?_
   refine rj_vJ (fun done vals w hR hcl hdk hJ hdn hd => v_fieldAddr (off := 10) (ft := 39) zk rfl) (fun _ _ _ _ j => j.src (Keep.refl _) rfl) ?_
   refine rj_vJ (fun done vals w hR hcl hdk hJ hdn hd => v_loadA zk (hd 1 rfl) (by first | exact (show Pv _ _ [_, _, _, _, _, _] from pv_sub 10 6 (HB4.keep hR dj4).pv) | exact (show Pv _ _ [_, _, _, _, _, _] from pv_sub 10 6 (HB1.keep hR dj4).pv) | exact pv_at 10 (HB4.keep hR dj4).pv | exact pv_at 10 (HB1.keep hR dj4).pv | assumption) rfl) (fun _ _ _ _ j => j.src (Keep.refl _) rfl) ?_
   replace HG2 := HG2.keep k105 dj1
   refine rj_vfJ (fun done vals w hR hcl hdk hJ hdn hd => to_f1 zk (hd 2 rfl) (MayMove_c (HG2.keep hR dj1))) (fun done vals w w1 hdk hJ e => hJ.src e rfl) ?_
   replace E := E.step k105 dj3
   replace HG1 := HG1.keep k105 dj1
   replace HSe := HSe.keep k105 dj1
   replace HSa := HSa.keep k105 dj1
   replace HSk := HSk.keep k105 dj1
   refine rj_d (fun done vals w hR hcl hdk hJ hdn hd => by
     have h0 := hJ.at (n := 0) rfl hdk (fun m h => by cases h)
     try dsimp only [List.getD_cons_zero, List.getD_cons_succ] at h0
     exact to_storeA (n := 20) rfl rfl (hd 0 rfl) zk rfl (one_all (by rfl)) h0 (of_decide_eq_true rfl) (fun w1 hB1 kk z => ⟨kk, hJ.step (n := 0) rfl hdk (fun m h => by cases h) rfl hB1⟩)) ?_
   refine rj_vJ (fun done vals w hR hcl hdk hJ hdn hd => v_assign (t := .bool _) (hd 3 rfl)) (fun _ _ _ _ j => j.src (Keep.refl _) rfl) ?_
   refine rj_nil (fun vals w106 k106 J106 => ?_)
   rintro _ - rfl _ - rfl _ - rfl _ - rfl _ - - _ - rfl
   have := k106.size
   have HB2 : Blk w106 b2 [.int .i64 k, .int .i64 0, .int .i64 0, .int .i64 0, .slice none 0 0, .slice none 0 0, .slice none 0 0, .slice none 0 0, .bool false, .int .i64 0, .int .i64 mv.1, .slice a5 mv.2.1.length c5, .slice a6 mv.2.2.1.length c6, .bool mv.2.2.2.1, .int .i64 mv.2.2.2.2.1, .int .i64 mv.2.2.2.2.2, .slice none 0 0, .slice none 0 0, .slice none 0 0, .int .i64 0] _ := BcJ.fin (n := 1) J106 rfl
   refine fin_nilJ (n_then (c_ret (r_blk (r_then (ret2cv (n := 20) rfl zq zq rfl zk HB2.pv rfl (zvB rfl) ?_)))))
   obtain rfl : k = 3 := dtrue h3
   replace E := E.step k106 dj3
   replace HG2 := HG2.keep k106 dj1
   exact ⟨⟨_, rfl, AgV.mkCm hik rq0_ag HG2 (SlV.nil _ _ _) (SlV.nil _ _ _) (SlV.nil _ _ _) ⟨by decide, by decide⟩⟩, E⟩
  rw [h3] at hx; cases hx
 refine c_seq (wp_reg zd (l_v (v_eql rfl rfl) ?_))
 refine l_v (zaB rfl) (l_nil (n_then (c_cond rfl rfl (fun h5 => ?_) (fun h5 => ?_))))
 ·
  refine c_skip (n_then (c_cond rfl rfl (fun hx => ?_) (fun hx => ?_)))
  ·
   refine c_seq (wp_reg zd (l_v (v_fieldAddr (off := 10) (ft := 39) zk rfl) (l_v (v_loadA zk rfl (by first | exact (show Pv _ _ [_, _, _, _, _, _] from pv_sub 10 6 HB4.pv) | exact (show Pv _ _ [_, _, _, _, _, _] from pv_sub 10 6 HB2.pv) | exact (show Pv _ _ [_, _, _, _, _, _] from pv_sub 10 6 HB1.pv) | exact pv_at 10 HB4.pv | exact pv_at 10 HB2.pv | exact pv_at 10 HB1.pv | assumption) rfl) ?_)))
   refine l_v (v_fieldAddr (off := 10) (ft := 39) zk rfl) (l_to (to_storeA (n := 6) rfl rfl (zvA rfl) zk rfl dj6 HB4 dj5 ?_))
   rintro w107 HX107 k107 z107
   have := k107.size
   replace HB4 := HX107
   clear HX107
   try simp only [zS, Nat.zero_add, Nat.reduceAdd, List.drop_nil] at HB4
   replace HB2 := HB2.keep k107 dj4
   refine l_nil (n_then (c_seq (wp_regJ (fun k => k = b2) (BcJ b2 _ [4] [_, ([.int .i64 k, .int .i64 0, .int .i64 0, .int .i64 0, .slice none 0 0, .slice none 0 0, .slice none 0 0, .slice none 0 0, .bool false, .int .i64 0, .int .i64 mv.1, .slice a5 mv.2.1.length c5, .slice a6 mv.2.2.1.length c6, .bool mv.2.2.2.1, .int .i64 mv.2.2.2.2.1, .int .i64 mv.2.2.2.2.2, .slice none 0 0, .slice none 0 0, .slice none 0 0, .int .i64 0] : List Value)]) zk zd zd (fun vals done hd => BcJ.start (HB2.ext (Keep.drawn _ _)) rfl (fun a ha => hd a (inA_lt (n := 6) rfl a ha))) ?_)))
   replace HB1 := HB1.keep k107 dj4
   refine rj_vJ (fun done vals w hR hcl hdk hJ hdn hd => v_loadA zk rfl (by first | exact (HB4.keep hR dj4).pv | exact (HB1.keep hR dj4).pv | assumption) rfl) (fun _ _ _ _ j => j.src (Keep.refl _) rfl) ?_
   refine rj_vJ (fun done vals w hR hcl hdk hJ hdn hd => v_fieldAddr (off := 10) (ft := 39) zk rfl) (fun _ _ _ _ j => j.src (Keep.refl _) rfl) ?_
   refine rj_vJ (fun done vals w hR hcl hdk hJ hdn hd => v_loadA zk (hd 1 rfl) (by first | exact (show Pv _ _ [_, _, _, _, _, _] from pv_sub 10 6 (HB4.keep hR dj4).pv) | exact (show Pv _ _ [_, _, _, _, _, _] from pv_sub 10 6 (HB1.keep hR dj4).pv) | exact pv_at 10 (HB4.keep hR dj4).pv | exact pv_at 10 (HB1.keep hR dj4).pv | assumption) rfl) (fun _ _ _ _ j => j.src (Keep.refl _) rfl) ?_
   replace HG2 := HG2.keep k107 dj1
   refine rj_vfJ (fun done vals w hR hcl hdk hJ hdn hd => to_f1 zk (hd 2 rfl) (MayMove_c (HG2.keep hR dj1))) (fun done vals w w1 hdk hJ e => hJ.src e rfl) ?_
   replace E := E.step k107 dj3
   replace HG1 := HG1.keep k107 dj1
   replace HSe := HSe.keep k107 dj1
   replace HSa := HSa.keep k107 dj1
   replace HSk := HSk.keep k107 dj1
   refine rj_d (fun done vals w hR hcl hdk hJ hdn hd => by
     have h0 := hJ.at (n := 0) rfl hdk (fun m h => by cases h)
     try dsimp only [List.getD_cons_zero, List.getD_cons_succ] at h0
     exact to_storeA (n := 20) rfl rfl (hd 0 rfl) zk rfl (one_all (by rfl)) h0 (of_decide_eq_true rfl) (fun w1 hB1 kk z => ⟨kk, hJ.step (n := 0) rfl hdk (fun m h => by cases h) rfl hB1⟩)) ?_
   refine rj_vJ (fun done vals w hR hcl hdk hJ hdn hd => v_assign (t := .bool _) (hd 3 rfl)) (fun _ _ _ _ j => j.src (Keep.refl _) rfl) ?_
   refine rj_nil (fun vals w108 k108 J108 => ?_)
   rintro _ - rfl _ - rfl _ - rfl _ - rfl _ - - _ - rfl
   have := k108.size
   have HB2 : Blk w108 b2 [.int .i64 k, .int .i64 0, .int .i64 0, .int .i64 0, .slice none 0 0, .slice none 0 0, .slice none 0 0, .slice none 0 0, .bool false, .int .i64 0, .int .i64 mv.1, .slice a5 mv.2.1.length c5, .slice a6 mv.2.2.1.length c6, .bool mv.2.2.2.1, .int .i64 mv.2.2.2.2.1, .int .i64 mv.2.2.2.2.2, .slice none 0 0, .slice none 0 0, .slice none 0 0, .int .i64 0] _ := BcJ.fin (n := 1) J108 rfl
   refine fin_nilJ (n_then (c_ret (r_blk (r_then (ret2cv (n := 20) rfl zq zq rfl zk HB2.pv rfl (zvB rfl) ?_)))))
   obtain rfl : k = 5 := dtrue h5
   replace E := E.step k108 dj3
   replace HG2 := HG2.keep k108 dj1
   exact ⟨⟨_, rfl, AgV.mkCm hik rq0_ag HG2 (SlV.nil _ _ _) (SlV.nil _ _ _) (SlV.nil _ _ _) ⟨by decide, by decide⟩⟩, E⟩
  rw [h5] at hx; cases hx
 refine c_seq (wp_reg zd (l_v (v_eql rfl rfl) ?_))
 refine l_v (zaB rfl) (l_nil (n_then (c_cond rfl rfl (fun h9 => ?_) (fun h9 => ?_))))
 ·
  refine c_skip (n_then (c_cond rfl rfl (fun hx => ?_) (fun hx => ?_)))
  ·
   refine c_seq (wp_reg zd (l_v (v_fieldAddr (off := 10) (ft := 39) zk rfl) (l_v (v_loadA zk rfl (by first | exact (show Pv _ _ [_, _, _, _, _, _] from pv_sub 10 6 HB4.pv) | exact (show Pv _ _ [_, _, _, _, _, _] from pv_sub 10 6 HB2.pv) | exact (show Pv _ _ [_, _, _, _, _, _] from pv_sub 10 6 HB1.pv) | exact pv_at 10 HB4.pv | exact pv_at 10 HB2.pv | exact pv_at 10 HB1.pv | assumption) rfl) ?_)))
   refine l_v (v_fieldAddr (off := 10) (ft := 39) zk rfl) (l_to (to_storeA (n := 6) rfl rfl (zvA rfl) zk rfl dj6 HB4 dj5 ?_))
   rintro w109 HX109 k109 z109
   have := k109.size
   replace HB4 := HX109
   clear HX109
   try simp only [zS, Nat.zero_add, Nat.reduceAdd, List.drop_nil] at HB4
   replace HB2 := HB2.keep k109 dj4
   refine l_nil (n_then (c_seq (wp_regJ (fun k => k = b2) (BcJ b2 _ [4] [_, ([.int .i64 k, .int .i64 0, .int .i64 0, .int .i64 0, .slice none 0 0, .slice none 0 0, .slice none 0 0, .slice none 0 0, .bool false, .int .i64 0, .int .i64 mv.1, .slice a5 mv.2.1.length c5, .slice a6 mv.2.2.1.length c6, .bool mv.2.2.2.1, .int .i64 mv.2.2.2.2.1, .int .i64 mv.2.2.2.2.2, .slice none 0 0, .slice none 0 0, .slice none 0 0, .int .i64 0] : List Value)]) zk zd zd (fun vals done hd => BcJ.start (HB2.ext (Keep.drawn _ _)) rfl (fun a ha => hd a (inA_lt (n := 6) rfl a ha))) ?_)))
   replace HB1 := HB1.keep k109 dj4
   refine rj_vJ (fun done vals w hR hcl hdk hJ hdn hd => v_loadA zk rfl (by first | exact (HB4.keep hR dj4).pv | exact (HB1.keep hR dj4).pv | assumption) rfl) (fun _ _ _ _ j => j.src (Keep.refl _) rfl) ?_
   refine rj_vJ (fun done vals w hR hcl hdk hJ hdn hd => v_fieldAddr (off := 10) (ft := 39) zk rfl) (fun _ _ _ _ j => j.src (Keep.refl _) rfl) ?_
   refine rj_vJ (fun done vals w hR hcl hdk hJ hdn hd => v_loadA zk (hd 1 rfl) (by first | exact (show Pv _ _ [_, _, _, _, _, _] from pv_sub 10 6 (HB4.keep hR dj4).pv) | exact (show Pv _ _ [_, _, _, _, _, _] from pv_sub 10 6 (HB1.keep hR dj4).pv) | exact pv_at 10 (HB4.keep hR dj4).pv | exact pv_at 10 (HB1.keep hR dj4).pv | assumption) rfl) (fun _ _ _ _ j => j.src (Keep.refl _) rfl) ?_
   replace HG2 := HG2.keep k109 dj1
   refine rj_vfJ (fun done vals w hR hcl hdk hJ hdn hd => to_f1 zk (hd 2 rfl) (MayMove_c (HG2.keep hR dj1))) (fun done vals w w1 hdk hJ e => hJ.src e rfl) ?_
   replace E := E.step k109 dj3
   replace HG1 := HG1.keep k109 dj1
   replace HSe := HSe.keep k109 dj1
   replace HSa := HSa.keep k109 dj1
   replace HSk := HSk.keep k109 dj1
   refine rj_d (fun done vals w hR hcl hdk hJ hdn hd => by
     have h0 := hJ.at (n := 0) rfl hdk (fun m h => by cases h)
     try dsimp only [List.getD_cons_zero, List.getD_cons_succ] at h0
     exact to_storeA (n := 20) rfl rfl (hd 0 rfl) zk rfl (one_all (by rfl)) h0 (of_decide_eq_true rfl) (fun w1 hB1 kk z => ⟨kk, hJ.step (n := 0) rfl hdk (fun m h => by cases h) rfl hB1⟩)) ?_
   refine rj_vJ (fun done vals w hR hcl hdk hJ hdn hd => v_assign (t := .bool _) (hd 3 rfl)) (fun _ _ _ _ j => j.src (Keep.refl _) rfl) ?_
   refine rj_nil (fun vals w110 k110 J110 => ?_)
   rintro _ - rfl _ - rfl _ - rfl _ - rfl _ - - _ - rfl
   have := k110.size
   have HB2 : Blk w110 b2 [.int .i64 k, .int .i64 0, .int .i64 0, .int .i64 0, .slice none 0 0, .slice none 0 0, .slice none 0 0, .slice none 0 0, .bool false, .int .i64 0, .int .i64 mv.1, .slice a5 mv.2.1.length c5, .slice a6 mv.2.2.1.length c6, .bool mv.2.2.2.1, .int .i64 mv.2.2.2.2.1, .int .i64 mv.2.2.2.2.2, .slice none 0 0, .slice none 0 0, .slice none 0 0, .int .i64 0] _ := BcJ.fin (n := 1) J110 rfl
   refine fin_nilJ (n_then (c_ret (r_blk (r_then (ret2cv (n := 20) rfl zq zq rfl zk HB2.pv rfl (zvB rfl) ?_)))))
   obtain rfl : k = 9 := dtrue h9
   replace E := E.step k110 dj3
   replace HG2 := HG2.keep k110 dj1
   exact ⟨⟨_, rfl, AgV.mkCm hik rq0_ag HG2 (SlV.nil _ _ _) (SlV.nil _ _ _) (SlV.nil _ _ _) ⟨by decide, by decide⟩⟩, E⟩
  rw [h9] at hx; cases hx
 refine wp_reg zd (l_v (v_eql rfl rfl) ?_)
 refine l_v (zaB rfl) (l_nil (n_then (c_cond rfl rfl (fun h10 => ?_) (fun h10 => ?_))))
 ·
  refine c_seq (wp_reg zd (l_v (v_fieldAddr (off := 10) (ft := 39) zk rfl) (l_v (v_loadA zk rfl (by first | exact (show Pv _ _ [_, _, _, _, _, _] from pv_sub 10 6 HB4.pv) | exact (show Pv _ _ [_, _, _, _, _, _] from pv_sub 10 6 HB2.pv) | exact (show Pv _ _ [_, _, _, _, _, _] from pv_sub 10 6 HB1.pv) | exact pv_at 10 HB4.pv | exact pv_at 10 HB2.pv | exact pv_at 10 HB1.pv | assumption) rfl) ?_)))
  refine l_v (v_fieldAddr (off := 10) (ft := 39) zk rfl) (l_to (to_storeA (n := 6) rfl rfl (zvA rfl) zk rfl dj6 HB4 dj5 ?_))
  rintro w111 HX111 k111 z111
  have := k111.size
  replace HB4 := HX111
  clear HX111
  try simp only [zS, Nat.zero_add, Nat.reduceAdd, List.drop_nil] at HB4
  replace HB2 := HB2.keep k111 dj4
  refine l_nil (n_then (c_seq (wp_regJ (fun k => k = b2) (BcJ b2 _ [4] [_, ([.int .i64 k, .int .i64 0, .int .i64 0, .int .i64 0, .slice none 0 0, .slice none 0 0, .slice none 0 0, .slice none 0 0, .bool false, .int .i64 0, .int .i64 mv.1, .slice a5 mv.2.1.length c5, .slice a6 mv.2.2.1.length c6, .bool mv.2.2.2.1, .int .i64 mv.2.2.2.2.1, .int .i64 mv.2.2.2.2.2, .slice none 0 0, .slice none 0 0, .slice none 0 0, .int .i64 0] : List Value)]) zk zd zd (fun vals done hd => BcJ.start (HB2.ext (Keep.drawn _ _)) rfl (fun a ha => hd a (inA_lt (n := 6) rfl a ha))) ?_)))
  replace HB1 := HB1.keep k111 dj4
  refine rj_vJ (fun done vals w hR hcl hdk hJ hdn hd => v_loadA zk rfl (by first | exact (HB4.keep hR dj4).pv | exact (HB1.keep hR dj4).pv | assumption) rfl) (fun _ _ _ _ j => j.src (Keep.refl _) rfl) ?_
  refine rj_vJ (fun done vals w hR hcl hdk hJ hdn hd => v_fieldAddr (off := 10) (ft := 39) zk rfl) (fun _ _ _ _ j => j.src (Keep.refl _) rfl) ?_
  refine rj_vJ (fun done vals w hR hcl hdk hJ hdn hd => v_loadA zk (hd 1 rfl) (by first | exact (show Pv _ _ [_, _, _, _, _, _] from pv_sub 10 6 (HB4.keep hR dj4).pv) | exact (show Pv _ _ [_, _, _, _, _, _] from pv_sub 10 6 (HB1.keep hR dj4).pv) | exact pv_at 10 (HB4.keep hR dj4).pv | exact pv_at 10 (HB1.keep hR dj4).pv | assumption) rfl) (fun _ _ _ _ j => j.src (Keep.refl _) rfl) ?_
  replace HG2 := HG2.keep k111 dj1
  refine rj_vfJ (fun done vals w hR hcl hdk hJ hdn hd => to_f1 zk (hd 2 rfl) (MayMove_c (HG2.keep hR dj1))) (fun done vals w w1 hdk hJ e => hJ.src e rfl) ?_
  replace E := E.step k111 dj3
  replace HG1 := HG1.keep k111 dj1
  replace HSe := HSe.keep k111 dj1
  replace HSa := HSa.keep k111 dj1
  replace HSk := HSk.keep k111 dj1
  refine rj_d (fun done vals w hR hcl hdk hJ hdn hd => by
    have h0 := hJ.at (n := 0) rfl hdk (fun m h => by cases h)
    try dsimp only [List.getD_cons_zero, List.getD_cons_succ] at h0
    exact to_storeA (n := 20) rfl rfl (hd 0 rfl) zk rfl (one_all (by rfl)) h0 (of_decide_eq_true rfl) (fun w1 hB1 kk z => ⟨kk, hJ.step (n := 0) rfl hdk (fun m h => by cases h) rfl hB1⟩)) ?_
  refine rj_vJ (fun done vals w hR hcl hdk hJ hdn hd => v_assign (t := .bool _) (hd 3 rfl)) (fun _ _ _ _ j => j.src (Keep.refl _) rfl) ?_
  refine rj_nil (fun vals w112 k112 J112 => ?_)
  rintro _ - rfl _ - rfl _ - rfl _ - rfl _ - - _ - rfl
  have := k112.size
  have HB2 : Blk w112 b2 [.int .i64 k, .int .i64 0, .int .i64 0, .int .i64 0, .slice none 0 0, .slice none 0 0, .slice none 0 0, .slice none 0 0, .bool false, .int .i64 0, .int .i64 mv.1, .slice a5 mv.2.1.length c5, .slice a6 mv.2.2.1.length c6, .bool mv.2.2.2.1, .int .i64 mv.2.2.2.2.1, .int .i64 mv.2.2.2.2.2, .slice none 0 0, .slice none 0 0, .slice none 0 0, .int .i64 0] _ := BcJ.fin (n := 1) J112 rfl
  refine fin_nilJ (n_then (c_ret (r_blk (r_then (ret2cv (n := 20) rfl zq zq rfl zk HB2.pv rfl (zvB rfl) ?_)))))
  obtain rfl : k = 10 := dtrue h10
  replace E := E.step k112 dj3
  replace HG2 := HG2.keep k112 dj1
  exact ⟨⟨_, rfl, AgV.mkCm hik rq0_ag HG2 (SlV.nil _ _ _) (SlV.nil _ _ _) (SlV.nil _ _ _) ⟨by decide, by decide⟩⟩, E⟩
 refine c_seq (wp_reg zd (l_v (v_eql rfl rfl) ?_))
 refine l_v (zaB rfl) (l_nil (n_then (c_cond rfl rfl (fun h4 => ?_) (fun h4 => ?_))))
 ·
  refine c_seq (wp_regJ (fun k => k = b4) (BcJ b4 _ [7, 9, 11] [_, ([.int .i64 k, .int .i64 0, .int .i64 0, .int .i64 0, .slice none 0 0, .slice none 0 0, .slice none 0 0, .slice none 0 0, .bool false, .int .i64 0, .int .i64 mv.1, .slice a5 mv.2.1.length c5, .slice a6 mv.2.2.1.length c6, .bool mv.2.2.2.1, .int .i64 mv.2.2.2.2.1, .int .i64 mv.2.2.2.2.2, .slice none 0 0, .slice none 0 0, .slice none 0 0, .int .i64 0] : List Value), ([.int .i64 k, .int .i64 0, .int .i64 0, .int .i64 0, .slice none 0 0, .slice none 0 0, .slice none 0 0, .slice none 0 0, .bool false, .int .i64 0, .int .i64 mv.1, .slice a5 mv.2.1.length c5, .slice a6 mv.2.2.1.length c6, .bool mv.2.2.2.1, .int .i64 mv.2.2.2.2.1, .int .i64 mv.2.2.2.2.2, .slice a7 en.length c7, .slice none 0 0, .slice none 0 0, .int .i64 0] : List Value), ([.int .i64 k, .int .i64 0, .int .i64 0, .int .i64 0, .slice none 0 0, .slice none 0 0, .slice none 0 0, .slice none 0 0, .bool false, .int .i64 0, .int .i64 mv.1, .slice a5 mv.2.1.length c5, .slice a6 mv.2.2.1.length c6, .bool mv.2.2.2.1, .int .i64 mv.2.2.2.2.1, .int .i64 mv.2.2.2.2.2, .slice a7 en.length c7, .slice a8 an.length c8, .slice none 0 0, .int .i64 0] : List Value)]) zk zd zd (fun vals done hd => BcJ.start (HB4.ext (Keep.drawn _ _)) rfl (fun a ha => hd a (inA_lt (n := 12) rfl a ha))) ?_)
  refine rj_vJ (fun done vals w hR hcl hdk hJ hdn hd => v_fieldAddr (off := 10) (ft := 39) zk rfl) (fun _ _ _ _ j => j.src (Keep.refl _) rfl) ?_
  refine rj_vJ (fun done vals w hR hcl hdk hJ hdn hd => v_loadA zk (hd 0 rfl) (by first | exact (show Pv _ _ [_, _, _, _, _, _] from pv_sub 10 6 (HB2.keep hR dj4).pv) | exact (show Pv _ _ [_, _, _, _, _, _] from pv_sub 10 6 (HB1.keep hR dj4).pv) | exact pv_at 10 (HB2.keep hR dj4).pv | exact pv_at 10 (HB1.keep hR dj4).pv | assumption) rfl) (fun _ _ _ _ j => j.src (Keep.refl _) rfl) ?_
  refine rj_vJ (fun done vals w hR hcl hdk hJ hdn hd => v_fieldAddr (off := 16) (ft := 40) zk rfl) (fun _ _ _ _ j => j.src (Keep.refl _) rfl) ?_
  refine rj_vJ (fun done vals w hR hcl hdk hJ hdn hd => v_load zk (hd 2 rfl) (by first | exact (HB2.keep hR dj4).pv 16 _ rfl | exact (HB1.keep hR dj4).pv 16 _ rfl | assumption)) (fun _ _ _ _ j => j.src (Keep.refl _) rfl) ?_
  refine rj_vJ (fun done vals w hR hcl hdk hJ hdn hd => v_fieldAddr (off := 17) (ft := 33) zk rfl) (fun _ _ _ _ j => j.src (Keep.refl _) rfl) ?_
  refine rj_vJ (fun done vals w hR hcl hdk hJ hdn hd => v_load zk (hd 4 rfl) (by first | exact (HB2.keep hR dj4).pv 17 _ rfl | exact (HB1.keep hR dj4).pv 17 _ rfl | assumption)) (fun _ _ _ _ j => j.src (Keep.refl _) rfl) ?_
  refine rj_vJ (fun done vals w hR hcl hdk hJ hdn hd => v_fieldAddr (off := 10) (ft := 39) zk rfl) (fun _ _ _ _ j => j.src (Keep.refl _) rfl) ?_
  refine rj_d (fun done vals w hR hcl hdk hJ hdn hd => by
    have h0 := hJ.at (n := 0) rfl hdk (fun m h => by cases h)
    try dsimp only [List.getD_cons_zero, List.getD_cons_succ] at h0
    exact to_storeA (n := 6) (hd 6 rfl) rfl (hd 1 rfl) zk rfl (one_all (by rfl)) h0 (of_decide_eq_true rfl) (fun w1 hB1 kk z => ⟨kk, hJ.step (n := 0) rfl hdk (fun m h => by cases h) rfl hB1⟩)) ?_
  refine rj_vJ (fun done vals w hR hcl hdk hJ hdn hd => v_fieldAddr (off := 16) (ft := 40) zk rfl) (fun _ _ _ _ j => j.src (Keep.refl _) rfl) ?_
  refine rj_d (fun done vals w hR hcl hdk hJ hdn hd => by
    have h0 := hJ.at (n := 1) rfl hdk (fun m h => ⟨_, by cases h; rfl, hdn 7 rfl⟩)
    try dsimp only [List.getD_cons_zero, List.getD_cons_succ] at h0
    exact to_store (hd 8 rfl) rfl (hd 3 rfl) rfl zk h0 (of_decide_eq_true rfl) (fun w1 hB1 kk z => ⟨kk, hJ.step (n := 1) rfl hdk (fun m h => ⟨_, by cases h; rfl, hdn 7 rfl⟩) rfl hB1⟩)) ?_
  refine rj_vJ (fun done vals w hR hcl hdk hJ hdn hd => v_fieldAddr (off := 17) (ft := 33) zk rfl) (fun _ _ _ _ j => j.src (Keep.refl _) rfl) ?_
  refine rj_d (fun done vals w hR hcl hdk hJ hdn hd => by
    have h0 := hJ.at (n := 2) rfl hdk (fun m h => ⟨_, by cases h; rfl, hdn 9 rfl⟩)
    try dsimp only [List.getD_cons_zero, List.getD_cons_succ] at h0
    exact to_store (hd 10 rfl) rfl (hd 5 rfl) rfl zk h0 (of_decide_eq_true rfl) (fun w1 hB1 kk z => ⟨kk, hJ.step (n := 2) rfl hdk (fun m h => ⟨_, by cases h; rfl, hdn 9 rfl⟩) rfl hB1⟩)) ?_
  refine rj_nil (fun vals w113 k113 J113 => ?_)
  rintro _ - rfl _ - rfl _ - rfl _ - rfl _ - rfl _ - rfl _ - rfl _ - - _ - rfl _ - - _ - rfl _ - -
  have := k113.size
  have HB4 : Blk w113 b4 [.int .i64 k, .int .i64 0, .int .i64 0, .int .i64 0, .slice none 0 0, .slice none 0 0, .slice none 0 0, .slice none 0 0, .bool false, .int .i64 0, .int .i64 mv.1, .slice a5 mv.2.1.length c5, .slice a6 mv.2.2.1.length c6, .bool mv.2.2.2.1, .int .i64 mv.2.2.2.2.1, .int .i64 mv.2.2.2.2.2, .slice a7 en.length c7, .slice a8 an.length c8, .slice none 0 0, .int .i64 0] _ := BcJ.fin (n := 3) J113 rfl
  replace HB2 := HB2.keep k113 dj4
  refine fin_nilJ (n_then (c_seq (wp_regJ (fun k => k = b2) (BcJ b2 _ [21] [_, ([.int .i64 k, .int .i64 0, .int .i64 0, .int .i64 0, .slice none 0 0, .slice none 0 0, .slice none 0 0, .slice none 0 0, .bool false, .int .i64 0, .int .i64 mv.1, .slice a5 mv.2.1.length c5, .slice a6 mv.2.2.1.length c6, .bool mv.2.2.2.1, .int .i64 mv.2.2.2.2.1, .int .i64 mv.2.2.2.2.2, .slice a7 en.length c7, .slice a8 an.length c8, .slice none 0 0, .int .i64 0] : List Value)]) zk zd zd (fun vals done hd => BcJ.start (HB2.ext (Keep.drawn _ _)) rfl (fun a ha => hd a (inA_lt (n := 23) rfl a ha))) ?_)))
  replace HB1 := HB1.keep k113 dj4
  refine rj_vJ (fun done vals w hR hcl hdk hJ hdn hd => v_loadA zk rfl (by first | exact (HB4.keep hR dj4).pv | exact (HB1.keep hR dj4).pv | assumption) rfl) (fun _ _ _ _ j => j.src (Keep.refl _) rfl) ?_
  refine rj_vJ (fun done vals w hR hcl hdk hJ hdn hd => v_fieldAddr (off := 10) (ft := 39) zk rfl) (fun _ _ _ _ j => j.src (Keep.refl _) rfl) ?_
  refine rj_vJ (fun done vals w hR hcl hdk hJ hdn hd => v_loadA zk (hd 1 rfl) (by first | exact (show Pv _ _ [_, _, _, _, _, _] from pv_sub 10 6 (HB4.keep hR dj4).pv) | exact (show Pv _ _ [_, _, _, _, _, _] from pv_sub 10 6 (HB1.keep hR dj4).pv) | exact pv_at 10 (HB4.keep hR dj4).pv | exact pv_at 10 (HB1.keep hR dj4).pv | assumption) rfl) (fun _ _ _ _ j => j.src (Keep.refl _) rfl) ?_
  replace HG2 := HG2.keep k113 dj1
  refine rj_vfJ (fun done vals w hR hcl hdk hJ hdn hd => to_f1 zk (hd 2 rfl) (MayMove_c (HG2.keep hR dj1))) (fun done vals w w1 hdk hJ e => hJ.src e rfl) ?_
  refine rj_vJ (fun done vals w hR hcl hdk hJ hdn hd => v_move (t := .bool _) (hd 3 rfl)) (fun _ _ _ _ j => j.src (Keep.refl _) rfl) ?_
  refine rj_g1J rfl (fun vals w hd => hd 4 rfl) (fun done vals w hR hcl hdk hJ hdn hd hG => v_fieldAddr (off := 16) (ft := 40) zk rfl) (fun done vals v w hdk hJ => hJ.src (Keep.refl _) rfl) ?_
  refine rj_g1J rfl (fun vals w hd => hd 4 rfl) (fun done vals w hR hcl hdk hJ hdn hd hG => v_load zk (gd hG (hd 5 rfl)) (by first | exact (HB4.keep hR dj4).pv 16 _ rfl | exact (HB1.keep hR dj4).pv 16 _ rfl | assumption)) (fun done vals v w hdk hJ => hJ.src (Keep.refl _) rfl) ?_
  replace HSe := HSe.keep k113 dj1
  refine rj_g1fJ rfl (fun vals w hd => hd 4 rfl) (fun done vals w hR hcl hdk hJ hdn hd hG => to_f1 zk (gd hG (hd 6 rfl)) (Rising_c (HSe.keep hR dj1))) (fun done vals v w w1 hdk hJ e => hJ.src e rfl) ?_
  refine rj_vJ (fun done vals w hR hcl hdk hJ hdn hd => v_and (hd 4 rfl) (hd 7 rfl)) (fun _ _ _ _ j => j.src (Keep.refl _) rfl) ?_
  refine rj_vJ (fun done vals w hR hcl hdk hJ hdn hd => v_move (t := .bool _) (hd 8 rfl)) (fun _ _ _ _ j => j.src (Keep.refl _) rfl) ?_
  refine rj_g1J rfl (fun vals w hd => hd 9 rfl) (fun done vals w hR hcl hdk hJ hdn hd hG => v_fieldAddr (off := 16) (ft := 40) zk rfl) (fun done vals v w hdk hJ => hJ.src (Keep.refl _) rfl) ?_
  refine rj_g1J rfl (fun vals w hd => hd 9 rfl) (fun done vals w hR hcl hdk hJ hdn hd hG => v_load zk (gd hG (hd 10 rfl)) (by first | exact (HB4.keep hR dj4).pv 16 _ rfl | exact (HB1.keep hR dj4).pv 16 _ rfl | assumption)) (fun done vals v w hdk hJ => hJ.src (Keep.refl _) rfl) ?_
  refine rj_g1J rfl (fun vals w hd => hd 9 rfl) (fun done vals w hR hcl hdk hJ hdn hd hG => v_len (et := 110) zk (gd hG (hd 11 rfl))) (fun done vals v w hdk hJ => hJ.src (Keep.refl _) rfl) ?_
  refine rj_g1J rfl (fun vals w hd => hd 9 rfl) (fun done vals w hR hcl hdk hJ hdn hd hG => v_leq (gd hG (hd 12 rfl)) rfl) (fun done vals v w hdk hJ => hJ.src (Keep.refl _) rfl) ?_
  refine rj_vJ (fun done vals w hR hcl hdk hJ hdn hd => v_and (hd 9 rfl) (hd 13 rfl)) (fun _ _ _ _ j => j.src (Keep.refl _) rfl) ?_
  refine rj_vJ (fun done vals w hR hcl hdk hJ hdn hd => v_move (t := .bool _) (hd 14 rfl)) (fun _ _ _ _ j => j.src (Keep.refl _) rfl) ?_
  refine rj_g1J rfl (fun vals w hd => hd 15 rfl) (fun done vals w hR hcl hdk hJ hdn hd hG => v_fieldAddr (off := 17) (ft := 33) zk rfl) (fun done vals v w hdk hJ => hJ.src (Keep.refl _) rfl) ?_
  refine rj_g1J rfl (fun vals w hd => hd 15 rfl) (fun done vals w hR hcl hdk hJ hdn hd hG => v_load zk (gd hG (hd 16 rfl)) (by first | exact (HB4.keep hR dj4).pv 17 _ rfl | exact (HB1.keep hR dj4).pv 17 _ rfl | assumption)) (fun done vals v w hdk hJ => hJ.src (Keep.refl _) rfl) ?_
  refine rj_g1J rfl (fun vals w hd => hd 15 rfl) (fun done vals w hR hcl hdk hJ hdn hd hG => v_len (et := 5) zk (gd hG (hd 17 rfl))) (fun done vals v w hdk hJ => hJ.src (Keep.refl _) rfl) ?_
  refine rj_g1J rfl (fun vals w hd => hd 15 rfl) (fun done vals w hR hcl hdk hJ hdn hd hG => v_leq (gd hG (hd 18 rfl)) rfl) (fun done vals v w hdk hJ => hJ.src (Keep.refl _) rfl) ?_
  refine rj_vJ (fun done vals w hR hcl hdk hJ hdn hd => v_and (hd 15 rfl) (hd 19 rfl)) (fun _ _ _ _ j => j.src (Keep.refl _) rfl) ?_
  replace E := E.step k113 dj3
  replace HG1 := HG1.keep k113 dj1
  replace HSa := HSa.keep k113 dj1
  replace HSk := HSk.keep k113 dj1
  refine rj_d (fun done vals w hR hcl hdk hJ hdn hd => by
    have h0 := hJ.at (n := 0) rfl hdk (fun m h => by cases h)
    try dsimp only [List.getD_cons_zero, List.getD_cons_succ] at h0
    exact to_storeA (n := 20) rfl rfl (hd 0 rfl) zk rfl (one_all (by rfl)) h0 (of_decide_eq_true rfl) (fun w1 hB1 kk z => ⟨kk, hJ.step (n := 0) rfl hdk (fun m h => by cases h) rfl hB1⟩)) ?_
  refine rj_vJ (fun done vals w hR hcl hdk hJ hdn hd => v_assign (t := .bool _) (hd 20 rfl)) (fun _ _ _ _ j => j.src (Keep.refl _) rfl) ?_
  refine rj_nil (fun vals w114 k114 J114 => ?_)
  rintro _ - rfl _ - rfl _ - rfl _ - rfl _ - rfl _ - rfl _ - rfl _ - rfl _ - rfl _ - rfl _ - rfl _ - rfl _ - rfl _ - rfl _ - rfl _ - rfl _ - rfl _ - rfl _ - rfl _ - rfl _ - rfl _ - - _ - rfl
  have := k114.size
  have HB2 : Blk w114 b2 [.int .i64 k, .int .i64 0, .int .i64 0, .int .i64 0, .slice none 0 0, .slice none 0 0, .slice none 0 0, .slice none 0 0, .bool false, .int .i64 0, .int .i64 mv.1, .slice a5 mv.2.1.length c5, .slice a6 mv.2.2.1.length c6, .bool mv.2.2.2.1, .int .i64 mv.2.2.2.2.1, .int .i64 mv.2.2.2.2.2, .slice a7 en.length c7, .slice a8 an.length c8, .slice none 0 0, .int .i64 0] _ := BcJ.fin (n := 1) J114 rfl
  refine fin_nilJ (n_then (c_ret (r_blk (r_then (ret2cv (n := 20) rfl zq zq rfl zk HB2.pv rfl (zvB rfl) ?_)))))
  obtain rfl : k = 4 := dtrue h4
  replace E := E.step k114 dj3
  replace HG2 := HG2.keep k114 dj1
  replace HSe := HSe.keep k114 dj1
  replace HSa := HSa.keep k114 dj1
  refine ⟨⟨_, ?_, AgV.mkCm hik rq0_ag HG2 HSe HSa (SlV.nil _ _ _) ⟨by decide, by decide⟩⟩, E⟩
  show Value.tuple #[_, _] = Value.tuple #[_, .bool (mayMv mv && risE en && decide (en.length ≤ 65536) && decide (an.length ≤ 524288))]
  rw [← show decide ((en.length : Int) ≤ 65536) = decide (en.length ≤ 65536) from decide_eq_decide.2 zo, ← show decide ((an.length : Int) ≤ 524288) = decide (an.length ≤ 524288) from decide_eq_decide.2 zo]
 refine c_seq (c_seq (wp_reg zd (l_v (v_eql rfl rfl) ?_)))
 refine l_v (zaB rfl) (l_nil (n_then (c_cond rfl rfl (fun h6 => ?_) (fun h6 => ?_))))
 ·
  refine c_skip (n_then (c_cond rfl rfl (fun hx => ?_) (fun hx => ?_)))
  ·
   refine c_seq (wp_reg zd (l_v (v_fieldAddr (off := 18) (ft := 33) zk rfl) (l_v (v_load zk rfl (by first | exact HB4.pv 18 _ rfl | exact HB2.pv 18 _ rfl | exact HB1.pv 18 _ rfl | assumption)) ?_)))
   refine l_v (v_fieldAddr (off := 18) (ft := 33) zk rfl) (l_to (to_store rfl rfl (zvS rfl) rfl zk HB4 dj5 ?_))
   rintro w115 HX115 k115 z115
   have := k115.size
   replace HB4 := HX115
   clear HX115
   try simp only [zS, Nat.zero_add, Nat.reduceAdd, List.drop_nil] at HB4
   replace HB2 := HB2.keep k115 dj4
   refine l_nil (n_then (c_seq (wp_regJ (fun k => k = b2) (BcJ b2 _ [4] [_, ([.int .i64 k, .int .i64 0, .int .i64 0, .int .i64 0, .slice none 0 0, .slice none 0 0, .slice none 0 0, .slice none 0 0, .bool false, .int .i64 0, .int .i64 0, .slice none 0 0, .slice none 0 0, .bool false, .int .i64 0, .int .i64 0, .slice none 0 0, .slice none 0 0, .slice a9 key.length c9, .int .i64 0] : List Value)]) zk zd zd (fun vals done hd => BcJ.start (HB2.ext (Keep.drawn _ _)) rfl (fun a ha => hd a (inA_lt (n := 6) rfl a ha))) ?_)))
   replace HB1 := HB1.keep k115 dj4
   refine rj_vJ (fun done vals w hR hcl hdk hJ hdn hd => v_loadA zk rfl (by first | exact (HB4.keep hR dj4).pv | exact (HB1.keep hR dj4).pv | assumption) rfl) (fun _ _ _ _ j => j.src (Keep.refl _) rfl) ?_
   refine rj_vJ (fun done vals w hR hcl hdk hJ hdn hd => v_fieldAddr (off := 18) (ft := 33) zk rfl) (fun _ _ _ _ j => j.src (Keep.refl _) rfl) ?_
   refine rj_vJ (fun done vals w hR hcl hdk hJ hdn hd => v_load zk (hd 1 rfl) (by first | exact (HB4.keep hR dj4).pv 18 _ rfl | exact (HB1.keep hR dj4).pv 18 _ rfl | assumption)) (fun _ _ _ _ j => j.src (Keep.refl _) rfl) ?_
   replace HSk := HSk.keep k115 dj1
   refine rj_vfJ (fun done vals w hR hcl hdk hJ hdn hd => to_f1 zk (hd 2 rfl) (ckey_c (HSk.keep hR dj1))) (fun done vals w w1 hdk hJ e => hJ.src e rfl) ?_
   replace E := E.step k115 dj3
   replace HG1 := HG1.keep k115 dj1
   replace HG2 := HG2.keep k115 dj1
   replace HSe := HSe.keep k115 dj1
   replace HSa := HSa.keep k115 dj1
   refine rj_d (fun done vals w hR hcl hdk hJ hdn hd => by
     have h0 := hJ.at (n := 0) rfl hdk (fun m h => by cases h)
     try dsimp only [List.getD_cons_zero, List.getD_cons_succ] at h0
     exact to_storeA (n := 20) rfl rfl (hd 0 rfl) zk rfl (one_all (by rfl)) h0 (of_decide_eq_true rfl) (fun w1 hB1 kk z => ⟨kk, hJ.step (n := 0) rfl hdk (fun m h => by cases h) rfl hB1⟩)) ?_
   refine rj_vJ (fun done vals w hR hcl hdk hJ hdn hd => v_assign (t := .bool _) (hd 3 rfl)) (fun _ _ _ _ j => j.src (Keep.refl _) rfl) ?_
   refine rj_nil (fun vals w116 k116 J116 => ?_)
   rintro _ - rfl _ - rfl _ - rfl _ - rfl _ - - _ - rfl
   have := k116.size
   have HB2 : Blk w116 b2 [.int .i64 k, .int .i64 0, .int .i64 0, .int .i64 0, .slice none 0 0, .slice none 0 0, .slice none 0 0, .slice none 0 0, .bool false, .int .i64 0, .int .i64 0, .slice none 0 0, .slice none 0 0, .bool false, .int .i64 0, .int .i64 0, .slice none 0 0, .slice none 0 0, .slice a9 key.length c9, .int .i64 0] _ := BcJ.fin (n := 1) J116 rfl
   refine fin_nilJ (n_then (c_ret (r_blk (r_then (ret2cv (n := 20) rfl zq zq rfl zk HB2.pv rfl (zvB rfl) ?_)))))
   obtain rfl : k = 6 := dtrue h6
   replace E := E.step k116 dj3
   replace HSk := HSk.keep k116 dj1
   exact ⟨⟨_, rfl, AgV.mkCm hik rq0_ag mv0_ag (SlV.nil _ _ _) (SlV.nil _ _ _) HSk ⟨by decide, by decide⟩⟩, E⟩
  rw [h6] at hx; cases hx
 refine wp_reg zd (l_v (v_eql rfl rfl) ?_)
 refine l_v (zaB rfl) (l_nil (n_then (c_cond rfl rfl (fun h7 => ?_) (fun h7 => ?_))))
 ·
  refine c_seq (wp_reg zd (l_v (v_fieldAddr (off := 18) (ft := 33) zk rfl) (l_v (v_load zk rfl (by first | exact HB4.pv 18 _ rfl | exact HB2.pv 18 _ rfl | exact HB1.pv 18 _ rfl | assumption)) ?_)))
  refine l_v (v_fieldAddr (off := 18) (ft := 33) zk rfl) (l_to (to_store rfl rfl (zvS rfl) rfl zk HB4 dj5 ?_))
  rintro w117 HX117 k117 z117
  have := k117.size
  replace HB4 := HX117
  clear HX117
  try simp only [zS, Nat.zero_add, Nat.reduceAdd, List.drop_nil] at HB4
  replace HB2 := HB2.keep k117 dj4
  refine l_nil (n_then (c_seq (wp_regJ (fun k => k = b2) (BcJ b2 _ [4] [_, ([.int .i64 k, .int .i64 0, .int .i64 0, .int .i64 0, .slice none 0 0, .slice none 0 0, .slice none 0 0, .slice none 0 0, .bool false, .int .i64 0, .int .i64 0, .slice none 0 0, .slice none 0 0, .bool false, .int .i64 0, .int .i64 0, .slice none 0 0, .slice none 0 0, .slice a9 key.length c9, .int .i64 0] : List Value)]) zk zd zd (fun vals done hd => BcJ.start (HB2.ext (Keep.drawn _ _)) rfl (fun a ha => hd a (inA_lt (n := 6) rfl a ha))) ?_)))
  replace HB1 := HB1.keep k117 dj4
  refine rj_vJ (fun done vals w hR hcl hdk hJ hdn hd => v_loadA zk rfl (by first | exact (HB4.keep hR dj4).pv | exact (HB1.keep hR dj4).pv | assumption) rfl) (fun _ _ _ _ j => j.src (Keep.refl _) rfl) ?_
  refine rj_vJ (fun done vals w hR hcl hdk hJ hdn hd => v_fieldAddr (off := 18) (ft := 33) zk rfl) (fun _ _ _ _ j => j.src (Keep.refl _) rfl) ?_
  refine rj_vJ (fun done vals w hR hcl hdk hJ hdn hd => v_load zk (hd 1 rfl) (by first | exact (HB4.keep hR dj4).pv 18 _ rfl | exact (HB1.keep hR dj4).pv 18 _ rfl | assumption)) (fun _ _ _ _ j => j.src (Keep.refl _) rfl) ?_
  replace HSk := HSk.keep k117 dj1
  refine rj_vfJ (fun done vals w hR hcl hdk hJ hdn hd => to_f1 zk (hd 2 rfl) (ckey_c (HSk.keep hR dj1))) (fun done vals w w1 hdk hJ e => hJ.src e rfl) ?_
  replace E := E.step k117 dj3
  replace HG1 := HG1.keep k117 dj1
  replace HG2 := HG2.keep k117 dj1
  replace HSe := HSe.keep k117 dj1
  replace HSa := HSa.keep k117 dj1
  refine rj_d (fun done vals w hR hcl hdk hJ hdn hd => by
    have h0 := hJ.at (n := 0) rfl hdk (fun m h => by cases h)
    try dsimp only [List.getD_cons_zero, List.getD_cons_succ] at h0
    exact to_storeA (n := 20) rfl rfl (hd 0 rfl) zk rfl (one_all (by rfl)) h0 (of_decide_eq_true rfl) (fun w1 hB1 kk z => ⟨kk, hJ.step (n := 0) rfl hdk (fun m h => by cases h) rfl hB1⟩)) ?_
  refine rj_vJ (fun done vals w hR hcl hdk hJ hdn hd => v_assign (t := .bool _) (hd 3 rfl)) (fun _ _ _ _ j => j.src (Keep.refl _) rfl) ?_
  refine rj_nil (fun vals w118 k118 J118 => ?_)
  rintro _ - rfl _ - rfl _ - rfl _ - rfl _ - - _ - rfl
  have := k118.size
  have HB2 : Blk w118 b2 [.int .i64 k, .int .i64 0, .int .i64 0, .int .i64 0, .slice none 0 0, .slice none 0 0, .slice none 0 0, .slice none 0 0, .bool false, .int .i64 0, .int .i64 0, .slice none 0 0, .slice none 0 0, .bool false, .int .i64 0, .int .i64 0, .slice none 0 0, .slice none 0 0, .slice a9 key.length c9, .int .i64 0] _ := BcJ.fin (n := 1) J118 rfl
  refine fin_nilJ (n_then (c_ret (r_blk (r_then (ret2cv (n := 20) rfl zq zq rfl zk HB2.pv rfl (zvB rfl) ?_)))))
  obtain rfl : k = 7 := dtrue h7
  replace E := E.step k118 dj3
  replace HSk := HSk.keep k118 dj1
  exact ⟨⟨_, rfl, AgV.mkCm hik rq0_ag mv0_ag (SlV.nil _ _ _) (SlV.nil _ _ _) HSk ⟨by decide, by decide⟩⟩, E⟩
 refine c_seq (wp_reg zd (l_v (v_eql rfl rfl) ?_))
 refine l_v (zaB rfl) (l_nil (n_then (c_cond rfl rfl (fun h8 => ?_) (fun h8 => ?_))))
 ·
  refine c_seq (wp_regJ (fun k => k = b4) (BcJ b4 _ [5, 7] [_, ([.int .i64 k, .int .i64 0, .int .i64 0, .int .i64 0, .slice none 0 0, .slice none 0 0, .slice none 0 0, .slice none 0 0, .bool false, .int .i64 0, .int .i64 0, .slice none 0 0, .slice none 0 0, .bool false, .int .i64 0, .int .i64 0, .slice none 0 0, .slice none 0 0, .slice a9 key.length c9, .int .i64 0] : List Value), ([.int .i64 k, .int .i64 0, .int .i64 0, .int .i64 0, .slice none 0 0, .slice none 0 0, .slice none 0 0, .slice none 0 0, .bool false, .int .i64 0, .int .i64 0, .slice none 0 0, .slice none 0 0, .bool false, .int .i64 0, .int .i64 0, .slice none 0 0, .slice none 0 0, .slice a9 key.length c9, .int .i64 g] : List Value)]) zk zd zd (fun vals done hd => BcJ.start (HB4.ext (Keep.drawn _ _)) rfl (fun a ha => hd a (inA_lt (n := 8) rfl a ha))) ?_)
  refine rj_vJ (fun done vals w hR hcl hdk hJ hdn hd => v_fieldAddr (off := 18) (ft := 33) zk rfl) (fun _ _ _ _ j => j.src (Keep.refl _) rfl) ?_
  refine rj_vJ (fun done vals w hR hcl hdk hJ hdn hd => v_load zk (hd 0 rfl) (by first | exact (HB2.keep hR dj4).pv 18 _ rfl | exact (HB1.keep hR dj4).pv 18 _ rfl | assumption)) (fun _ _ _ _ j => j.src (Keep.refl _) rfl) ?_
  refine rj_vJ (fun done vals w hR hcl hdk hJ hdn hd => v_fieldAddr (off := 19) (ft := 3) zk rfl) (fun _ _ _ _ j => j.src (Keep.refl _) rfl) ?_
  refine rj_vJ (fun done vals w hR hcl hdk hJ hdn hd => v_load zk (hd 2 rfl) (by first | exact (HB2.keep hR dj4).pv 19 _ rfl | exact (HB1.keep hR dj4).pv 19 _ rfl | assumption)) (fun _ _ _ _ j => j.src (Keep.refl _) rfl) ?_
  refine rj_vJ (fun done vals w hR hcl hdk hJ hdn hd => v_fieldAddr (off := 18) (ft := 33) zk rfl) (fun _ _ _ _ j => j.src (Keep.refl _) rfl) ?_
  refine rj_d (fun done vals w hR hcl hdk hJ hdn hd => by
    have h0 := hJ.at (n := 0) rfl hdk (fun m h => by cases h)
    try dsimp only [List.getD_cons_zero, List.getD_cons_succ] at h0
    exact to_store (hd 4 rfl) rfl (hd 1 rfl) rfl zk h0 (of_decide_eq_true rfl) (fun w1 hB1 kk z => ⟨kk, hJ.step (n := 0) rfl hdk (fun m h => by cases h) rfl hB1⟩)) ?_
  refine rj_vJ (fun done vals w hR hcl hdk hJ hdn hd => v_fieldAddr (off := 19) (ft := 3) zk rfl) (fun _ _ _ _ j => j.src (Keep.refl _) rfl) ?_
  refine rj_d (fun done vals w hR hcl hdk hJ hdn hd => by
    have h0 := hJ.at (n := 1) rfl hdk (fun m h => ⟨_, by cases h; rfl, hdn 5 rfl⟩)
    try dsimp only [List.getD_cons_zero, List.getD_cons_succ] at h0
    exact to_store (hd 6 rfl) rfl (hd 3 rfl) rfl zk h0 (of_decide_eq_true rfl) (fun w1 hB1 kk z => ⟨kk, hJ.step (n := 1) rfl hdk (fun m h => ⟨_, by cases h; rfl, hdn 5 rfl⟩) rfl hB1⟩)) ?_
  refine rj_nil (fun vals w119 k119 J119 => ?_)
  rintro _ - rfl _ - rfl _ - rfl _ - rfl _ - rfl _ - - _ - rfl _ - -
  have := k119.size
  have HB4 : Blk w119 b4 [.int .i64 k, .int .i64 0, .int .i64 0, .int .i64 0, .slice none 0 0, .slice none 0 0, .slice none 0 0, .slice none 0 0, .bool false, .int .i64 0, .int .i64 0, .slice none 0 0, .slice none 0 0, .bool false, .int .i64 0, .int .i64 0, .slice none 0 0, .slice none 0 0, .slice a9 key.length c9, .int .i64 g] _ := BcJ.fin (n := 2) J119 rfl
  replace HB2 := HB2.keep k119 dj4
  refine fin_nilJ (n_then (c_seq (wp_regJ (fun k => k = b2) (BcJ b2 _ [10] [_, ([.int .i64 k, .int .i64 0, .int .i64 0, .int .i64 0, .slice none 0 0, .slice none 0 0, .slice none 0 0, .slice none 0 0, .bool false, .int .i64 0, .int .i64 0, .slice none 0 0, .slice none 0 0, .bool false, .int .i64 0, .int .i64 0, .slice none 0 0, .slice none 0 0, .slice a9 key.length c9, .int .i64 g] : List Value)]) zk zd zd (fun vals done hd => BcJ.start (HB2.ext (Keep.drawn _ _)) rfl (fun a ha => hd a (inA_lt (n := 12) rfl a ha))) ?_)))
  replace HB1 := HB1.keep k119 dj4
  refine rj_vJ (fun done vals w hR hcl hdk hJ hdn hd => v_loadA zk rfl (by first | exact (HB4.keep hR dj4).pv | exact (HB1.keep hR dj4).pv | assumption) rfl) (fun _ _ _ _ j => j.src (Keep.refl _) rfl) ?_
  refine rj_vJ (fun done vals w hR hcl hdk hJ hdn hd => v_fieldAddr (off := 18) (ft := 33) zk rfl) (fun _ _ _ _ j => j.src (Keep.refl _) rfl) ?_
  refine rj_vJ (fun done vals w hR hcl hdk hJ hdn hd => v_load zk (hd 1 rfl) (by first | exact (HB4.keep hR dj4).pv 18 _ rfl | exact (HB1.keep hR dj4).pv 18 _ rfl | assumption)) (fun _ _ _ _ j => j.src (Keep.refl _) rfl) ?_
  refine rj_vJ (fun done vals w hR hcl hdk hJ hdn hd => v_len (et := 5) zk (hd 2 rfl)) (fun _ _ _ _ j => j.src (Keep.refl _) rfl) ?_
  refine rj_vJ (fun done vals w hR hcl hdk hJ hdn hd => v_leq (hd 3 rfl) rfl) (fun _ _ _ _ j => j.src (Keep.refl _) rfl) ?_
  refine rj_vJ (fun done vals w hR hcl hdk hJ hdn hd => v_move (t := .bool _) (hd 4 rfl)) (fun _ _ _ _ j => j.src (Keep.refl _) rfl) ?_
  refine rj_g1J rfl (fun vals w hd => hd 5 rfl) (fun done vals w hR hcl hdk hJ hdn hd hG => v_fieldAddr (off := 19) (ft := 3) zk rfl) (fun done vals v w hdk hJ => hJ.src (Keep.refl _) rfl) ?_
  refine rj_g1J rfl (fun vals w hd => hd 5 rfl) (fun done vals w hR hcl hdk hJ hdn hd hG => v_load zk (gd hG (hd 6 rfl)) (by first | exact (HB4.keep hR dj4).pv 19 _ rfl | exact (HB1.keep hR dj4).pv 19 _ rfl | assumption)) (fun done vals v w hdk hJ => hJ.src (Keep.refl _) rfl) ?_
  refine rj_g1fJ rfl (fun vals w hd => hd 5 rfl) (fun done vals w hR hcl hdk hJ hdn hd hG => to_f1 zk (gd hG (hd 7 rfl)) (cgroup_c)) (fun done vals v w w1 hdk hJ e => hJ.src e rfl) ?_
  refine rj_vJ (fun done vals w hR hcl hdk hJ hdn hd => v_and (hd 5 rfl) (hd 8 rfl)) (fun _ _ _ _ j => j.src (Keep.refl _) rfl) ?_
  replace E := E.step k119 dj3
  replace HG1 := HG1.keep k119 dj1
  replace HG2 := HG2.keep k119 dj1
  replace HSe := HSe.keep k119 dj1
  replace HSa := HSa.keep k119 dj1
  replace HSk := HSk.keep k119 dj1
  refine rj_d (fun done vals w hR hcl hdk hJ hdn hd => by
    have h0 := hJ.at (n := 0) rfl hdk (fun m h => by cases h)
    try dsimp only [List.getD_cons_zero, List.getD_cons_succ] at h0
    exact to_storeA (n := 20) rfl rfl (hd 0 rfl) zk rfl (one_all (by rfl)) h0 (of_decide_eq_true rfl) (fun w1 hB1 kk z => ⟨kk, hJ.step (n := 0) rfl hdk (fun m h => by cases h) rfl hB1⟩)) ?_
  refine rj_vJ (fun done vals w hR hcl hdk hJ hdn hd => v_assign (t := .bool _) (hd 9 rfl)) (fun _ _ _ _ j => j.src (Keep.refl _) rfl) ?_
  refine rj_nil (fun vals w120 k120 J120 => ?_)
  rintro _ - rfl _ - rfl _ - rfl _ - rfl _ - rfl _ - rfl _ - rfl _ - rfl _ - rfl _ - rfl _ - - _ - rfl
  have := k120.size
  have HB2 : Blk w120 b2 [.int .i64 k, .int .i64 0, .int .i64 0, .int .i64 0, .slice none 0 0, .slice none 0 0, .slice none 0 0, .slice none 0 0, .bool false, .int .i64 0, .int .i64 0, .slice none 0 0, .slice none 0 0, .bool false, .int .i64 0, .int .i64 0, .slice none 0 0, .slice none 0 0, .slice a9 key.length c9, .int .i64 g] _ := BcJ.fin (n := 1) J120 rfl
  refine fin_nilJ (n_then (c_ret (r_blk (r_then (ret2cv (n := 20) rfl zq zq rfl zk HB2.pv rfl (zvB rfl) ?_)))))
  obtain rfl : k = 8 := dtrue h8
  replace E := E.step k120 dj3
  replace HSk := HSk.keep k120 dj1
  refine ⟨⟨_, ?_, AgV.mkCm hik rq0_ag mv0_ag (SlV.nil _ _ _) (SlV.nil _ _ _) HSk hig⟩, E⟩
  show Value.tuple #[_, _] = Value.tuple #[_, .bool (decide (key.length ≤ 24) && grpB g)]
  rw [← show decide ((key.length : Int) ≤ 24) = decide (key.length ≤ 24) from decide_eq_decide.2 zo]
 refine c_skip (n_blk (n_then (c_seq (wp_reg zd (l_v (v_loadA zk rfl (by first | exact HB4.pv | exact HB2.pv | exact HB1.pv | assumption) rfl) ?_)))))
 refine l_to (to_storeA (n := 20) rfl rfl (zvA rfl) zk rfl dj6 HB2 dj5 ?_)
 rintro w121 HX121 k121 z121
 have := k121.size
 replace HB2 := HX121
 clear HX121
 try simp only [zS, Nat.zero_add, Nat.reduceAdd, List.drop_nil] at HB2
 refine l_v (v_assign rfl) (l_nil (n_then (c_ret (ret2cv (n := 20) rfl zq zq rfl zk HB2.pv rfl (zvB rfl) ?_))))
 rw [nmd_none (dfalse h1) (dfalse h2) (dfalse h3) (dfalse h5) (dfalse h9) (dfalse h10) (dfalse h4) (dfalse h6) (dfalse h7) (dfalse h8)]
 replace E := E.step k121 dj3
 exact ⟨⟨_, rfl, AgV.mkCm hik rq0_ag mv0_ag (SlV.nil _ _ _) (SlV.nil _ _ _) (SlV.nil _ _ _) ⟨by decide, by decide⟩⟩, E⟩
end Go.Proofs.Yteehplloacefmaa
