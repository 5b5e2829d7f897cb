/- A part of the proof: steps and lemmas for the walks through the given program. -/
import Derived.Test.YtaidpdjlchnonaaN3
import Derived.Test.YtaidpdjlchnonaaGn
namespace Go.Proofs.Ytaidpdjlchnonaa
open Go.Vc
set_option linter.unusedVariables false
set_option linter.unusedSimpArgs false
set_option maxRecDepth 100000

theorem number_c {w : World} {n : Int} : CallsR Try.prog 51 #[.int .i64 n] w (fun o w' => o = .bool (wiB n 0 2147483647) ∧ Ext w w') := by
  refine enter 9 Try.func51 rfl rfl (by simp) ?_
  refine c_seq ?_
  have E := Keep.refl (K := NoK) w
  refine wp_reg (by decide +kernel) ?_
  refine l_v (v_assign rfl) ?_
  refine l_nil ?_
  refine n_then ?_
  refine c_seq ?_
  refine wp_reg (by decide +kernel) ?_
  refine l_v (v_move (t := .int _ _) rfl) ?_
  refine l_v (v_geq rfl rfl) ?_
  refine l_v (v_move (t := .bool _) rfl) ?_
  refine l_g1 rfl rfl (fun hG => v_move (t := .int _ _) rfl) ?_
  refine l_g1 rfl rfl (fun hG => v_leq (gd hG rfl) rfl) ?_
  refine l_v (v_and rfl rfl) ?_
  refine l_v (v_assign (t := .bool _) rfl) ?_
  refine l_nil ?_
  refine n_then ?_
  refine c_ret ?_
  refine ret1v rfl (by decide) (show _ = (Value.bool _) from rfl) ?_
  refine ⟨?_, E⟩
  rw [wiB]
  all_goals (cases decide (0 ≤ n) <;> rfl)
theorem bare_c {w : World} {m : Ms} {a1 a2 : Option Addr} {n1 c1 n2 c2 : Nat} : CallsR Try.prog 52 #[.agg #[.int .i64 m.kind, .int .i64 m.fr, .int .i64 m.to, .int .i64 m.grp, .int .i64 m.term, .int .i64 m.idx, .int .i64 m.lt, .int .i64 m.com, .slice a1 n1 c1, .bool m.ok, .slice a2 n2 c2]] w (fun o w' => o = bareV m (.slice a1 n1 c1) (.slice a2 n2 c2) ∧ Ext w w') := by
  refine enter 73 Try.func52 rfl rfl (by simp) ?_
  refine c_seq ?_
  have E := Keep.refl (K := NoK) w
  refine wp_reg (by decide +kernel) ?_
  refine l_to (to_box (show _ = (Value.agg _) from rfl) ?_)
  rintro b1 w1 zb1 HB1 e1 z1
  have zs_e1 := e1.size
  replace E := E.trans (Ext.keep e1)
  try simp only [Value.cells] at HB1
  refine l_to (to_alloc (z := (.agg #[.int .i64 0, .int .i64 0, .int .i64 0, .int .i64 0, .int .i64 0, .int .i64 0, .int .i64 0, .int .i64 0, .slice none 0 0, .bool false, .slice none 0 0])) (by unfold kZero; kernel_rfl) ?_)
  rintro b2 w2 zb2 HB2 e2 z2
  have zs_e2 := e2.size
  replace E := E.trans (Ext.keep e2)
  replace HB1 := HB1.ext e2
  try simp only [Value.cells] at HB2
  refine l_nil ?_
  refine n_then ?_
  refine c_seq ?_
  refine wp_reg (by decide +kernel) ?_
  refine l_v (v_fieldAddr (off := 0) (ft := 22) (by kernel_rfl) rfl) ?_
  refine l_v (v_load (by kernel_rfl) rfl (by first | exact HB2.pv 0 _ rfl | exact HB1.pv 0 _ rfl | assumption)) ?_
  refine l_v (v_fieldAddr (off := 1) (ft := 3) (by kernel_rfl) rfl) ?_
  refine l_v (v_load (by kernel_rfl) rfl (by first | exact HB2.pv 1 _ rfl | exact HB1.pv 1 _ rfl | assumption)) ?_
  refine l_v (v_fieldAddr (off := 2) (ft := 3) (by kernel_rfl) rfl) ?_
  refine l_v (v_load (by kernel_rfl) rfl (by first | exact HB2.pv 2 _ rfl | exact HB1.pv 2 _ rfl | assumption)) ?_
  refine l_v (v_fieldAddr (off := 3) (ft := 3) (by kernel_rfl) rfl) ?_
  refine l_v (v_load (by kernel_rfl) rfl (by first | exact HB2.pv 3 _ rfl | exact HB1.pv 3 _ rfl | assumption)) ?_
  refine l_v (v_fieldAddr (off := 4) (ft := 2) (by kernel_rfl) rfl) ?_
  refine l_v (v_load (by kernel_rfl) rfl (by first | exact HB2.pv 4 _ rfl | exact HB1.pv 4 _ rfl | assumption)) ?_
  refine l_v (v_build (pl := [(0, 1), (1, 1), (2, 1), (3, 1), (4, 1), (5, 1), (6, 1), (7, 1), (8, 1), (9, 1), (10, 1)]) (z := .agg #[.int .i64 0, .int .i64 0, .int .i64 0, .int .i64 0, .int .i64 0, .int .i64 0, .int .i64 0, .int .i64 0, .slice none 0 0, .bool false, .slice none 0 0]) (zl := [.int .i64 0, .int .i64 0, .int .i64 0, .int .i64 0, .int .i64 0, .int .i64 0, .int .i64 0, .int .i64 0, .slice none 0 0, .bool false, .slice none 0 0]) (by kernel_rfl) (by unfold kZero; kernel_rfl) rfl rfl (cells := [_, _, _, _, _, _, _, _, _, _, _]) rfl) ?_
  refine l_to (to_alloc (z := (.agg #[.int .i64 0, .int .i64 0, .int .i64 0, .int .i64 0, .int .i64 0, .int .i64 0, .int .i64 0, .int .i64 0, .slice none 0 0, .bool false, .slice none 0 0])) (by unfold kZero; kernel_rfl) ?_)
  rintro b3 w3 zb3 HB3 e3 z3
  have zs_e3 := e3.size
  replace E := E.trans (Ext.keep e3)
  replace HB1 := HB1.ext e3
  replace HB2 := HB2.ext e3
  try simp only [Value.cells] at HB3
  refine l_to (to_storeA (n := 11) rfl rfl (show _ = (Value.agg _) from rfl) (by kernel_rfl) rfl (by first | (simp [slice_one]; done) | (simp only [List.forall_mem_cons, List.cons_append, List.nil_append]; repeat' (first | exact rfl | apply And.intro | (intro u hu; cases hu; done)))) HB3 (by first | exact of_decide_eq_true rfl | (simp; done) | decide) ?_)
  rintro w101 HX101 k101 z101
  have zs_k101 := k101.size
  replace E := E.step k101 (by intro i hi he; (try dsimp only [NoK] at hi he ⊢); first | exact he.elim | omega | exact he)
  replace HB1 := HB1.keep k101 (by intro h; (try dsimp only at h); first | omega)
  replace HB2 := HB2.keep k101 (by intro h; (try dsimp only at h); first | omega)
  replace HB3 := HX101
  clear HX101
  try simp only [List.set_cons_zero, List.set_cons_succ, setAt, List.take_zero, List.take_succ_cons, List.drop_zero, List.drop_succ_cons, List.nil_append, List.cons_append, List.append_nil, List.length_cons, List.length_nil, Nat.zero_add, Nat.reduceAdd, List.drop_nil] at HB3
  refine l_nil ?_
  refine n_then ?_
  refine c_seq ?_
  refine c_seq ?_
  refine wp_reg (by decide +kernel) ?_
  refine l_v (v_fieldAddr (off := 0) (ft := 22) (by kernel_rfl) rfl) ?_
  refine l_v (v_load (by kernel_rfl) rfl (by first | exact HB3.pv 0 _ rfl | exact HB2.pv 0 _ rfl | exact HB1.pv 0 _ rfl | assumption)) ?_
  refine l_nil ?_
  refine n_then ?_
  refine c_block ?_
  refine c_seq ?_
  refine wp_reg (by decide +kernel) ?_
  refine l_v (v_eql rfl rfl) ?_
  refine l_v (v_assign (t := .bool _) rfl) ?_
  refine l_nil ?_
  refine n_then ?_
  refine c_cond rfl rfl (fun h1 => ?_) (fun h1 => ?_)
  · skip
    refine wp_regJ (fun k => k = b3) (StJ b3 _ _ [(5, 5, some 1, (undef : Value)), (7, 6, some 3, (undef : Value))]) (by kernel_rfl) (by decide +kernel) (by decide +kernel) (fun vals done hd => StJ.start (HB3.ext (Keep.drawn _ _)) (fun a ha => hd a.1 (st_lt (n := 8) rfl a ha))) ?_
    refine rj_vJ (fun done vals w hR hcl hdk hJ hdn hd => v_fieldAddr (off := 5) (ft := 2) (by kernel_rfl) rfl) (fun done vals w hdk hJ => hJ.src (Keep.refl _) hdk rfl) ?_
    refine rj_vJ (fun done vals w hR hcl hdk hJ hdn hd => v_load (by kernel_rfl) (hd 0 rfl) (by first | exact (hJ.at0 hcl hdk ⟨_, _, rfl, rfl, by decide⟩).pv 5 _ rfl | exact (HB2.keep hR (by intro h; (try dsimp only at h); first | omega)).pv 5 _ rfl | exact (HB1.keep hR (by intro h; (try dsimp only at h); first | omega)).pv 5 _ rfl | assumption)) (fun done vals w hdk hJ => hJ.src (Keep.refl _) hdk rfl) ?_
    refine rj_vJ (fun done vals w hR hcl hdk hJ hdn hd => v_fieldAddr (off := 6) (ft := 2) (by kernel_rfl) rfl) (fun done vals w hdk hJ => hJ.src (Keep.refl _) hdk rfl) ?_
    refine rj_vJ (fun done vals w hR hcl hdk hJ hdn hd => v_load (by kernel_rfl) (hd 2 rfl) (by first | exact (hJ.at0 hcl hdk ⟨_, _, rfl, rfl, by decide⟩).pv 6 _ rfl | exact (HB2.keep hR (by intro h; (try dsimp only at h); first | omega)).pv 6 _ rfl | exact (HB1.keep hR (by intro h; (try dsimp only at h); first | omega)).pv 6 _ rfl | assumption)) (fun done vals w hdk hJ => hJ.src (Keep.refl _) hdk rfl) ?_
    refine rj_vJ (fun done vals w hR hcl hdk hJ hdn hd => v_fieldAddr (off := 5) (ft := 2) (by kernel_rfl) rfl) (fun done vals w hdk hJ => hJ.src (Keep.refl _) hdk rfl) ?_
    refine rj_d (fun done vals w hR hcl hdk hJ hdn hd => to_store (hd 4 rfl) rfl rfl (by first | exact SlV.one (hd 1 rfl) | exact SlV.one (hd 1 rfl).1 | exact OwV.one (hd 1 rfl) | exact OwV.one (hd 1 rfl).1 | (have h := hd 1 rfl; dsimp only [setS] at h; rw [h]; rfl) | exact (hd 1 rfl).1 | (obtain ⟨_, h⟩ := hd 1 rfl; rw [h]; rfl) | exact (congrArg Value.oneCell' (hd 1 rfl)).trans rfl) (by kernel_rfl) (hJ.at (n := 0) rfl hdk (fun m h => by cases h)) (by rw [conts_len]; exact of_decide_eq_true rfl) (fun w1 hB k z => ⟨k, hJ.step (n := 0) rfl hdk (fun m h => by cases h) (fun k h => by cases h; exact hdn 1 rfl) (once_st rfl) rfl hB⟩)) ?_
    refine rj_vJ (fun done vals w hR hcl hdk hJ hdn hd => v_fieldAddr (off := 6) (ft := 2) (by kernel_rfl) rfl) (fun done vals w hdk hJ => hJ.src (Keep.refl _) hdk rfl) ?_
    refine rj_d (fun done vals w hR hcl hdk hJ hdn hd => to_store (hd 6 rfl) rfl rfl (by first | exact SlV.one (hd 3 rfl) | exact SlV.one (hd 3 rfl).1 | exact OwV.one (hd 3 rfl) | exact OwV.one (hd 3 rfl).1 | (have h := hd 3 rfl; dsimp only [setS] at h; rw [h]; rfl) | exact (hd 3 rfl).1 | (obtain ⟨_, h⟩ := hd 3 rfl; rw [h]; rfl) | exact (congrArg Value.oneCell' (hd 3 rfl)).trans rfl) (by kernel_rfl) (hJ.at (n := 1) rfl hdk (fun m h => ⟨_, by cases h; rfl, hdn 5 rfl⟩)) (by rw [conts_len]; exact of_decide_eq_true rfl) (fun w1 hB k z => ⟨k, hJ.step (n := 1) rfl hdk (fun m h => ⟨_, by cases h; rfl, hdn 5 rfl⟩) (fun k h => by cases h; exact hdn 3 rfl) (once_st rfl) rfl hB⟩)) ?_
    refine rj_nil (fun vals w102 k102 J102 => ?_)
    rintro _ - rfl _ qs1 rfl _ - rfl _ qs3 rfl _ - rfl _ - - _ - rfl _ - -
    have zs_k102 := k102.size
    have HX102 := J102.fin
    simp only [conts, sv, ← qs1, ← qs3] at HX102
    replace E := E.step k102 (by intro i hi he; (try dsimp only [NoK] at hi he ⊢); first | exact he.elim | omega | exact he)
    replace HB1 := HB1.keep k102 (by intro h; (try dsimp only at h); first | omega)
    replace HB2 := HB2.keep k102 (by intro h; (try dsimp only at h); first | omega)
    replace HB3 := HX102
    clear HX102
    try simp only [List.set_cons_zero, List.set_cons_succ, setAt, List.take_zero, List.take_succ_cons, List.drop_zero, List.drop_succ_cons, List.nil_append, List.cons_append, List.append_nil, List.length_cons, List.length_nil, Nat.zero_add, Nat.reduceAdd, List.drop_nil] at HB3
    refine fin_nilJ ?_
    refine n_blk ?_
    refine n_then ?_
    refine c_seq ?_
    refine wp_reg (by decide +kernel) ?_
    refine l_v (v_loadA (by kernel_rfl) rfl (by first | exact HB3.pv | exact HB2.pv | exact HB1.pv | assumption) rfl) ?_
    refine l_to (to_storeA (n := 11) rfl rfl (show _ = (Value.agg _) from rfl) (by kernel_rfl) rfl (by first | (simp [slice_one]; done) | (simp only [List.forall_mem_cons, List.cons_append, List.nil_append]; repeat' (first | exact rfl | apply And.intro | (intro u hu; cases hu; done)))) HB2 (by first | exact of_decide_eq_true rfl | (simp; done) | decide) ?_)
    rintro w103 HX103 k103 z103
    have zs_k103 := k103.size
    replace E := E.step k103 (by intro i hi he; (try dsimp only [NoK] at hi he ⊢); first | exact he.elim | omega | exact he)
    replace HB1 := HB1.keep k103 (by intro h; (try dsimp only at h); first | omega)
    replace HB3 := HB3.keep k103 (by intro h; (try dsimp only at h); first | omega)
    replace HB2 := HX103
    clear HX103
    try simp only [List.set_cons_zero, List.set_cons_succ, setAt, List.take_zero, List.take_succ_cons, List.drop_zero, List.drop_succ_cons, List.nil_append, List.cons_append, List.append_nil, List.length_cons, List.length_nil, Nat.zero_add, Nat.reduceAdd, List.drop_nil] at HB2
    refine l_nil ?_
    refine n_then ?_
    refine c_ret ?_
    refine ret1c (n := 11) rfl (by decide) rfl (by kernel_rfl) HB2.pv rfl ?_
    exact ⟨bareV1 (dtrue h1), E⟩
  · skip
    refine c_seq ?_
    refine wp_reg (by decide +kernel) ?_
    refine l_v (v_eql rfl rfl) ?_
    refine l_v (v_assign (t := .bool _) rfl) ?_
    refine l_nil ?_
    refine n_then ?_
    refine c_cond rfl rfl (fun h2 => ?_) (fun h2 => ?_)
    · skip
      refine wp_reg (by decide +kernel) ?_
      refine l_v (v_fieldAddr (off := 9) (ft := 4) (by kernel_rfl) rfl) ?_
      refine l_v (v_load (by kernel_rfl) rfl (by first | exact HB3.pv 9 _ rfl | exact HB2.pv 9 _ rfl | exact HB1.pv 9 _ rfl | assumption)) ?_
      refine l_v (v_fieldAddr (off := 9) (ft := 4) (by kernel_rfl) rfl) ?_
      refine l_to (to_store rfl rfl (show _ = (Value.bool _) from rfl) rfl (by kernel_rfl) HB3 (by first | exact of_decide_eq_true rfl | (simp; done) | decide) ?_)
      rintro w104 HX104 k104 z104
      have zs_k104 := k104.size
      replace E := E.step k104 (by intro i hi he; (try dsimp only [NoK] at hi he ⊢); first | exact he.elim | omega | exact he)
      replace HB1 := HB1.keep k104 (by intro h; (try dsimp only at h); first | omega)
      replace HB2 := HB2.keep k104 (by intro h; (try dsimp only at h); first | omega)
      replace HB3 := HX104
      clear HX104
      try simp only [List.set_cons_zero, List.set_cons_succ, setAt, List.take_zero, List.take_succ_cons, List.drop_zero, List.drop_succ_cons, List.nil_append, List.cons_append, List.append_nil, List.length_cons, List.length_nil, Nat.zero_add, Nat.reduceAdd, List.drop_nil] at HB3
      refine l_nil ?_
      refine n_blk ?_
      refine n_then ?_
      refine c_seq ?_
      refine wp_reg (by decide +kernel) ?_
      refine l_v (v_loadA (by kernel_rfl) rfl (by first | exact HB3.pv | exact HB2.pv | exact HB1.pv | assumption) rfl) ?_
      refine l_to (to_storeA (n := 11) rfl rfl (show _ = (Value.agg _) from rfl) (by kernel_rfl) rfl (by first | (simp [slice_one]; done) | (simp only [List.forall_mem_cons, List.cons_append, List.nil_append]; repeat' (first | exact rfl | apply And.intro | (intro u hu; cases hu; done)))) HB2 (by first | exact of_decide_eq_true rfl | (simp; done) | decide) ?_)
      rintro w105 HX105 k105 z105
      have zs_k105 := k105.size
      replace E := E.step k105 (by intro i hi he; (try dsimp only [NoK] at hi he ⊢); first | exact he.elim | omega | exact he)
      replace HB1 := HB1.keep k105 (by intro h; (try dsimp only at h); first | omega)
      replace HB3 := HB3.keep k105 (by intro h; (try dsimp only at h); first | omega)
      replace HB2 := HX105
      clear HX105
      try simp only [List.set_cons_zero, List.set_cons_succ, setAt, List.take_zero, List.take_succ_cons, List.drop_zero, List.drop_succ_cons, List.nil_append, List.cons_append, List.append_nil, List.length_cons, List.length_nil, Nat.zero_add, Nat.reduceAdd, List.drop_nil] at HB2
      refine l_nil ?_
      refine n_then ?_
      refine c_ret ?_
      refine ret1c (n := 11) rfl (by decide) rfl (by kernel_rfl) HB2.pv rfl ?_
      exact ⟨bareV2 (dtrue h2), E⟩
    · skip
      refine c_seq ?_
      refine wp_reg (by decide +kernel) ?_
      refine l_v (v_eql rfl rfl) ?_
      refine l_v (v_assign (t := .bool _) rfl) ?_
      refine l_nil ?_
      refine n_then ?_
      refine c_cond rfl rfl (fun h3 => ?_) (fun h3 => ?_)
      · skip
        refine wp_regJ (fun k => k = b3) (StJ b3 _ _ [(9, 5, some 1, (undef : Value)), (11, 6, some 3, (undef : Value)), (13, 7, some 5, (undef : Value)), (15, 8, some 7, (undef : Value))]) (by kernel_rfl) (by decide +kernel) (by decide +kernel) (fun vals done hd => StJ.start (HB3.ext (Keep.drawn _ _)) (fun a ha => hd a.1 (st_lt (n := 16) rfl a ha))) ?_
        refine rj_vJ (fun done vals w hR hcl hdk hJ hdn hd => v_fieldAddr (off := 5) (ft := 2) (by kernel_rfl) rfl) (fun done vals w hdk hJ => hJ.src (Keep.refl _) hdk rfl) ?_
        refine rj_vJ (fun done vals w hR hcl hdk hJ hdn hd => v_load (by kernel_rfl) (hd 0 rfl) (by first | exact (hJ.at0 hcl hdk ⟨_, _, rfl, rfl, by decide⟩).pv 5 _ rfl | exact (HB2.keep hR (by intro h; (try dsimp only at h); first | omega)).pv 5 _ rfl | exact (HB1.keep hR (by intro h; (try dsimp only at h); first | omega)).pv 5 _ rfl | assumption)) (fun done vals w hdk hJ => hJ.src (Keep.refl _) hdk rfl) ?_
        refine rj_vJ (fun done vals w hR hcl hdk hJ hdn hd => v_fieldAddr (off := 6) (ft := 2) (by kernel_rfl) rfl) (fun done vals w hdk hJ => hJ.src (Keep.refl _) hdk rfl) ?_
        refine rj_vJ (fun done vals w hR hcl hdk hJ hdn hd => v_load (by kernel_rfl) (hd 2 rfl) (by first | exact (hJ.at0 hcl hdk ⟨_, _, rfl, rfl, by decide⟩).pv 6 _ rfl | exact (HB2.keep hR (by intro h; (try dsimp only at h); first | omega)).pv 6 _ rfl | exact (HB1.keep hR (by intro h; (try dsimp only at h); first | omega)).pv 6 _ rfl | assumption)) (fun done vals w hdk hJ => hJ.src (Keep.refl _) hdk rfl) ?_
        refine rj_vJ (fun done vals w hR hcl hdk hJ hdn hd => v_fieldAddr (off := 7) (ft := 2) (by kernel_rfl) rfl) (fun done vals w hdk hJ => hJ.src (Keep.refl _) hdk rfl) ?_
        refine rj_vJ (fun done vals w hR hcl hdk hJ hdn hd => v_load (by kernel_rfl) (hd 4 rfl) (by first | exact (hJ.at0 hcl hdk ⟨_, _, rfl, rfl, by decide⟩).pv 7 _ rfl | exact (HB2.keep hR (by intro h; (try dsimp only at h); first | omega)).pv 7 _ rfl | exact (HB1.keep hR (by intro h; (try dsimp only at h); first | omega)).pv 7 _ rfl | assumption)) (fun done vals w hdk hJ => hJ.src (Keep.refl _) hdk rfl) ?_
        refine rj_vJ (fun done vals w hR hcl hdk hJ hdn hd => v_fieldAddr (off := 8) (ft := 23) (by kernel_rfl) rfl) (fun done vals w hdk hJ => hJ.src (Keep.refl _) hdk rfl) ?_
        refine rj_vJ (fun done vals w hR hcl hdk hJ hdn hd => v_load (by kernel_rfl) (hd 6 rfl) (by first | exact (hJ.at0 hcl hdk ⟨_, _, rfl, rfl, by decide⟩).pv 8 _ rfl | exact (HB2.keep hR (by intro h; (try dsimp only at h); first | omega)).pv 8 _ rfl | exact (HB1.keep hR (by intro h; (try dsimp only at h); first | omega)).pv 8 _ rfl | assumption)) (fun done vals w hdk hJ => hJ.src (Keep.refl _) hdk rfl) ?_
        refine rj_vJ (fun done vals w hR hcl hdk hJ hdn hd => v_fieldAddr (off := 5) (ft := 2) (by kernel_rfl) rfl) (fun done vals w hdk hJ => hJ.src (Keep.refl _) hdk rfl) ?_
        refine rj_d (fun done vals w hR hcl hdk hJ hdn hd => to_store (hd 8 rfl) rfl rfl (by first | exact SlV.one (hd 1 rfl) | exact SlV.one (hd 1 rfl).1 | exact OwV.one (hd 1 rfl) | exact OwV.one (hd 1 rfl).1 | (have h := hd 1 rfl; dsimp only [setS] at h; rw [h]; rfl) | exact (hd 1 rfl).1 | (obtain ⟨_, h⟩ := hd 1 rfl; rw [h]; rfl) | exact (congrArg Value.oneCell' (hd 1 rfl)).trans rfl) (by kernel_rfl) (hJ.at (n := 0) rfl hdk (fun m h => by cases h)) (by rw [conts_len]; exact of_decide_eq_true rfl) (fun w1 hB k z => ⟨k, hJ.step (n := 0) rfl hdk (fun m h => by cases h) (fun k h => by cases h; exact hdn 1 rfl) (once_st rfl) rfl hB⟩)) ?_
        refine rj_vJ (fun done vals w hR hcl hdk hJ hdn hd => v_fieldAddr (off := 6) (ft := 2) (by kernel_rfl) rfl) (fun done vals w hdk hJ => hJ.src (Keep.refl _) hdk rfl) ?_
        refine rj_d (fun done vals w hR hcl hdk hJ hdn hd => to_store (hd 10 rfl) rfl rfl (by first | exact SlV.one (hd 3 rfl) | exact SlV.one (hd 3 rfl).1 | exact OwV.one (hd 3 rfl) | exact OwV.one (hd 3 rfl).1 | (have h := hd 3 rfl; dsimp only [setS] at h; rw [h]; rfl) | exact (hd 3 rfl).1 | (obtain ⟨_, h⟩ := hd 3 rfl; rw [h]; rfl) | exact (congrArg Value.oneCell' (hd 3 rfl)).trans rfl) (by kernel_rfl) (hJ.at (n := 1) rfl hdk (fun m h => ⟨_, by cases h; rfl, hdn 9 rfl⟩)) (by rw [conts_len]; exact of_decide_eq_true rfl) (fun w1 hB k z => ⟨k, hJ.step (n := 1) rfl hdk (fun m h => ⟨_, by cases h; rfl, hdn 9 rfl⟩) (fun k h => by cases h; exact hdn 3 rfl) (once_st rfl) rfl hB⟩)) ?_
        refine rj_vJ (fun done vals w hR hcl hdk hJ hdn hd => v_fieldAddr (off := 7) (ft := 2) (by kernel_rfl) rfl) (fun done vals w hdk hJ => hJ.src (Keep.refl _) hdk rfl) ?_
        refine rj_d (fun done vals w hR hcl hdk hJ hdn hd => to_store (hd 12 rfl) rfl rfl (by first | exact SlV.one (hd 5 rfl) | exact SlV.one (hd 5 rfl).1 | exact OwV.one (hd 5 rfl) | exact OwV.one (hd 5 rfl).1 | (have h := hd 5 rfl; dsimp only [setS] at h; rw [h]; rfl) | exact (hd 5 rfl).1 | (obtain ⟨_, h⟩ := hd 5 rfl; rw [h]; rfl) | exact (congrArg Value.oneCell' (hd 5 rfl)).trans rfl) (by kernel_rfl) (hJ.at (n := 2) rfl hdk (fun m h => ⟨_, by cases h; rfl, hdn 11 rfl⟩)) (by rw [conts_len]; exact of_decide_eq_true rfl) (fun w1 hB k z => ⟨k, hJ.step (n := 2) rfl hdk (fun m h => ⟨_, by cases h; rfl, hdn 11 rfl⟩) (fun k h => by cases h; exact hdn 5 rfl) (once_st rfl) rfl hB⟩)) ?_
        refine rj_vJ (fun done vals w hR hcl hdk hJ hdn hd => v_fieldAddr (off := 8) (ft := 23) (by kernel_rfl) rfl) (fun done vals w hdk hJ => hJ.src (Keep.refl _) hdk rfl) ?_
        refine rj_d (fun done vals w hR hcl hdk hJ hdn hd => to_store (hd 14 rfl) rfl rfl (by first | exact SlV.one (hd 7 rfl) | exact SlV.one (hd 7 rfl).1 | exact OwV.one (hd 7 rfl) | exact OwV.one (hd 7 rfl).1 | (have h := hd 7 rfl; dsimp only [setS] at h; rw [h]; rfl) | exact (hd 7 rfl).1 | (obtain ⟨_, h⟩ := hd 7 rfl; rw [h]; rfl) | exact (congrArg Value.oneCell' (hd 7 rfl)).trans rfl) (by kernel_rfl) (hJ.at (n := 3) rfl hdk (fun m h => ⟨_, by cases h; rfl, hdn 13 rfl⟩)) (by rw [conts_len]; exact of_decide_eq_true rfl) (fun w1 hB k z => ⟨k, hJ.step (n := 3) rfl hdk (fun m h => ⟨_, by cases h; rfl, hdn 13 rfl⟩) (fun k h => by cases h; exact hdn 7 rfl) (once_st rfl) rfl hB⟩)) ?_
        refine rj_nil (fun vals w106 k106 J106 => ?_)
        rintro _ - rfl _ qs1 rfl _ - rfl _ qs3 rfl _ - rfl _ qs5 rfl _ - rfl _ qs7 rfl _ - rfl _ - - _ - rfl _ - - _ - rfl _ - - _ - rfl _ - -
        have zs_k106 := k106.size
        have HX106 := J106.fin
        simp only [conts, sv, ← qs1, ← qs3, ← qs5, ← qs7] at HX106
        replace E := E.step k106 (by intro i hi he; (try dsimp only [NoK] at hi he ⊢); first | exact he.elim | omega | exact he)
        replace HB1 := HB1.keep k106 (by intro h; (try dsimp only at h); first | omega)
        replace HB2 := HB2.keep k106 (by intro h; (try dsimp only at h); first | omega)
        replace HB3 := HX106
        clear HX106
        try simp only [List.set_cons_zero, List.set_cons_succ, setAt, List.take_zero, List.take_succ_cons, List.drop_zero, List.drop_succ_cons, List.nil_append, List.cons_append, List.append_nil, List.length_cons, List.length_nil, Nat.zero_add, Nat.reduceAdd, List.drop_nil] at HB3
        refine fin_nilJ ?_
        refine n_blk ?_
        refine n_then ?_
        refine c_seq ?_
        refine wp_reg (by decide +kernel) ?_
        refine l_v (v_loadA (by kernel_rfl) rfl (by first | exact HB3.pv | exact HB2.pv | exact HB1.pv | assumption) rfl) ?_
        refine l_to (to_storeA (n := 11) rfl rfl (show _ = (Value.agg _) from rfl) (by kernel_rfl) rfl (by first | (simp [slice_one]; done) | (simp only [List.forall_mem_cons, List.cons_append, List.nil_append]; repeat' (first | exact rfl | apply And.intro | (intro u hu; cases hu; done)))) HB2 (by first | exact of_decide_eq_true rfl | (simp; done) | decide) ?_)
        rintro w107 HX107 k107 z107
        have zs_k107 := k107.size
        replace E := E.step k107 (by intro i hi he; (try dsimp only [NoK] at hi he ⊢); first | exact he.elim | omega | exact he)
        replace HB1 := HB1.keep k107 (by intro h; (try dsimp only at h); first | omega)
        replace HB3 := HB3.keep k107 (by intro h; (try dsimp only at h); first | omega)
        replace HB2 := HX107
        clear HX107
        try simp only [List.set_cons_zero, List.set_cons_succ, setAt, List.take_zero, List.take_succ_cons, List.drop_zero, List.drop_succ_cons, List.nil_append, List.cons_append, List.append_nil, List.length_cons, List.length_nil, Nat.zero_add, Nat.reduceAdd, List.drop_nil] at HB2
        refine l_nil ?_
        refine n_then ?_
        refine c_ret ?_
        refine ret1c (n := 11) rfl (by decide) rfl (by kernel_rfl) HB2.pv rfl ?_
        exact ⟨bareV3 (dtrue h3), E⟩
      · skip
        refine c_seq ?_
        refine wp_reg (by decide +kernel) ?_
        refine l_v (v_eql rfl rfl) ?_
        refine l_v (v_assign (t := .bool _) rfl) ?_
        refine l_nil ?_
        refine n_then ?_
        refine c_cond rfl rfl (fun h4 => ?_) (fun h4 => ?_)
        · skip
          refine wp_regJ (fun k => k = b3) (StJ b3 _ _ [(5, 5, some 1, (undef : Value)), (7, 9, some 3, (undef : Value))]) (by kernel_rfl) (by decide +kernel) (by decide +kernel) (fun vals done hd => StJ.start (HB3.ext (Keep.drawn _ _)) (fun a ha => hd a.1 (st_lt (n := 8) rfl a ha))) ?_
          refine rj_vJ (fun done vals w hR hcl hdk hJ hdn hd => v_fieldAddr (off := 5) (ft := 2) (by kernel_rfl) rfl) (fun done vals w hdk hJ => hJ.src (Keep.refl _) hdk rfl) ?_
          refine rj_vJ (fun done vals w hR hcl hdk hJ hdn hd => v_load (by kernel_rfl) (hd 0 rfl) (by first | exact (hJ.at0 hcl hdk ⟨_, _, rfl, rfl, by decide⟩).pv 5 _ rfl | exact (HB2.keep hR (by intro h; (try dsimp only at h); first | omega)).pv 5 _ rfl | exact (HB1.keep hR (by intro h; (try dsimp only at h); first | omega)).pv 5 _ rfl | assumption)) (fun done vals w hdk hJ => hJ.src (Keep.refl _) hdk rfl) ?_
          refine rj_vJ (fun done vals w hR hcl hdk hJ hdn hd => v_fieldAddr (off := 9) (ft := 4) (by kernel_rfl) rfl) (fun done vals w hdk hJ => hJ.src (Keep.refl _) hdk rfl) ?_
          refine rj_vJ (fun done vals w hR hcl hdk hJ hdn hd => v_load (by kernel_rfl) (hd 2 rfl) (by first | exact (hJ.at0 hcl hdk ⟨_, _, rfl, rfl, by decide⟩).pv 9 _ rfl | exact (HB2.keep hR (by intro h; (try dsimp only at h); first | omega)).pv 9 _ rfl | exact (HB1.keep hR (by intro h; (try dsimp only at h); first | omega)).pv 9 _ rfl | assumption)) (fun done vals w hdk hJ => hJ.src (Keep.refl _) hdk rfl) ?_
          refine rj_vJ (fun done vals w hR hcl hdk hJ hdn hd => v_fieldAddr (off := 5) (ft := 2) (by kernel_rfl) rfl) (fun done vals w hdk hJ => hJ.src (Keep.refl _) hdk rfl) ?_
          refine rj_d (fun done vals w hR hcl hdk hJ hdn hd => to_store (hd 4 rfl) rfl rfl (by first | exact SlV.one (hd 1 rfl) | exact SlV.one (hd 1 rfl).1 | exact OwV.one (hd 1 rfl) | exact OwV.one (hd 1 rfl).1 | (have h := hd 1 rfl; dsimp only [setS] at h; rw [h]; rfl) | exact (hd 1 rfl).1 | (obtain ⟨_, h⟩ := hd 1 rfl; rw [h]; rfl) | exact (congrArg Value.oneCell' (hd 1 rfl)).trans rfl) (by kernel_rfl) (hJ.at (n := 0) rfl hdk (fun m h => by cases h)) (by rw [conts_len]; exact of_decide_eq_true rfl) (fun w1 hB k z => ⟨k, hJ.step (n := 0) rfl hdk (fun m h => by cases h) (fun k h => by cases h; exact hdn 1 rfl) (once_st rfl) rfl hB⟩)) ?_
          refine rj_vJ (fun done vals w hR hcl hdk hJ hdn hd => v_fieldAddr (off := 9) (ft := 4) (by kernel_rfl) rfl) (fun done vals w hdk hJ => hJ.src (Keep.refl _) hdk rfl) ?_
          refine rj_d (fun done vals w hR hcl hdk hJ hdn hd => to_store (hd 6 rfl) rfl rfl (by first | exact SlV.one (hd 3 rfl) | exact SlV.one (hd 3 rfl).1 | exact OwV.one (hd 3 rfl) | exact OwV.one (hd 3 rfl).1 | (have h := hd 3 rfl; dsimp only [setS] at h; rw [h]; rfl) | exact (hd 3 rfl).1 | (obtain ⟨_, h⟩ := hd 3 rfl; rw [h]; rfl) | exact (congrArg Value.oneCell' (hd 3 rfl)).trans rfl) (by kernel_rfl) (hJ.at (n := 1) rfl hdk (fun m h => ⟨_, by cases h; rfl, hdn 5 rfl⟩)) (by rw [conts_len]; exact of_decide_eq_true rfl) (fun w1 hB k z => ⟨k, hJ.step (n := 1) rfl hdk (fun m h => ⟨_, by cases h; rfl, hdn 5 rfl⟩) (fun k h => by cases h; exact hdn 3 rfl) (once_st rfl) rfl hB⟩)) ?_
          refine rj_nil (fun vals w108 k108 J108 => ?_)
          rintro _ - rfl _ qs1 rfl _ - rfl _ qs3 rfl _ - rfl _ - - _ - rfl _ - -
          have zs_k108 := k108.size
          have HX108 := J108.fin
          simp only [conts, sv, ← qs1, ← qs3] at HX108
          replace E := E.step k108 (by intro i hi he; (try dsimp only [NoK] at hi he ⊢); first | exact he.elim | omega | exact he)
          replace HB1 := HB1.keep k108 (by intro h; (try dsimp only at h); first | omega)
          replace HB2 := HB2.keep k108 (by intro h; (try dsimp only at h); first | omega)
          replace HB3 := HX108
          clear HX108
          try simp only [List.set_cons_zero, List.set_cons_succ, setAt, List.take_zero, List.take_succ_cons, List.drop_zero, List.drop_succ_cons, List.nil_append, List.cons_append, List.append_nil, List.length_cons, List.length_nil, Nat.zero_add, Nat.reduceAdd, List.drop_nil] at HB3
          refine fin_nilJ ?_
          refine n_blk ?_
          refine n_then ?_
          refine c_seq ?_
          refine wp_reg (by decide +kernel) ?_
          refine l_v (v_loadA (by kernel_rfl) rfl (by first | exact HB3.pv | exact HB2.pv | exact HB1.pv | assumption) rfl) ?_
          refine l_to (to_storeA (n := 11) rfl rfl (show _ = (Value.agg _) from rfl) (by kernel_rfl) rfl (by first | (simp [slice_one]; done) | (simp only [List.forall_mem_cons, List.cons_append, List.nil_append]; repeat' (first | exact rfl | apply And.intro | (intro u hu; cases hu; done)))) HB2 (by first | exact of_decide_eq_true rfl | (simp; done) | decide) ?_)
          rintro w109 HX109 k109 z109
          have zs_k109 := k109.size
          replace E := E.step k109 (by intro i hi he; (try dsimp only [NoK] at hi he ⊢); first | exact he.elim | omega | exact he)
          replace HB1 := HB1.keep k109 (by intro h; (try dsimp only at h); first | omega)
          replace HB3 := HB3.keep k109 (by intro h; (try dsimp only at h); first | omega)
          replace HB2 := HX109
          clear HX109
          try simp only [List.set_cons_zero, List.set_cons_succ, setAt, List.take_zero, List.take_succ_cons, List.drop_zero, List.drop_succ_cons, List.nil_append, List.cons_append, List.append_nil, List.length_cons, List.length_nil, Nat.zero_add, Nat.reduceAdd, List.drop_nil] at HB2
          refine l_nil ?_
          refine n_then ?_
          refine c_ret ?_
          refine ret1c (n := 11) rfl (by decide) rfl (by kernel_rfl) HB2.pv rfl ?_
          exact ⟨bareV4 (dtrue h4), E⟩
        · skip
          refine c_seq ?_
          refine wp_reg (by decide +kernel) ?_
          refine l_v (v_eql rfl rfl) ?_
          refine l_v (v_assign (t := .bool _) rfl) ?_
          refine l_nil ?_
          refine n_then ?_
          refine c_cond rfl rfl (fun h5 => ?_) (fun h5 => ?_)
          · skip
            refine wp_regJ (fun k => k = b3) (StJ b3 _ _ [(9, 5, some 1, (undef : Value)), (11, 6, some 3, (undef : Value)), (13, 7, some 5, (undef : Value)), (15, 10, some 7, (undef : Value))]) (by kernel_rfl) (by decide +kernel) (by decide +kernel) (fun vals done hd => StJ.start (HB3.ext (Keep.drawn _ _)) (fun a ha => hd a.1 (st_lt (n := 16) rfl a ha))) ?_
            refine rj_vJ (fun done vals w hR hcl hdk hJ hdn hd => v_fieldAddr (off := 5) (ft := 2) (by kernel_rfl) rfl) (fun done vals w hdk hJ => hJ.src (Keep.refl _) hdk rfl) ?_
            refine rj_vJ (fun done vals w hR hcl hdk hJ hdn hd => v_load (by kernel_rfl) (hd 0 rfl) (by first | exact (hJ.at0 hcl hdk ⟨_, _, rfl, rfl, by decide⟩).pv 5 _ rfl | exact (HB2.keep hR (by intro h; (try dsimp only at h); first | omega)).pv 5 _ rfl | exact (HB1.keep hR (by intro h; (try dsimp only at h); first | omega)).pv 5 _ rfl | assumption)) (fun done vals w hdk hJ => hJ.src (Keep.refl _) hdk rfl) ?_
            refine rj_vJ (fun done vals w hR hcl hdk hJ hdn hd => v_fieldAddr (off := 6) (ft := 2) (by kernel_rfl) rfl) (fun done vals w hdk hJ => hJ.src (Keep.refl _) hdk rfl) ?_
            refine rj_vJ (fun done vals w hR hcl hdk hJ hdn hd => v_load (by kernel_rfl) (hd 2 rfl) (by first | exact (hJ.at0 hcl hdk ⟨_, _, rfl, rfl, by decide⟩).pv 6 _ rfl | exact (HB2.keep hR (by intro h; (try dsimp only at h); first | omega)).pv 6 _ rfl | exact (HB1.keep hR (by intro h; (try dsimp only at h); first | omega)).pv 6 _ rfl | assumption)) (fun done vals w hdk hJ => hJ.src (Keep.refl _) hdk rfl) ?_
            refine rj_vJ (fun done vals w hR hcl hdk hJ hdn hd => v_fieldAddr (off := 7) (ft := 2) (by kernel_rfl) rfl) (fun done vals w hdk hJ => hJ.src (Keep.refl _) hdk rfl) ?_
            refine rj_vJ (fun done vals w hR hcl hdk hJ hdn hd => v_load (by kernel_rfl) (hd 4 rfl) (by first | exact (hJ.at0 hcl hdk ⟨_, _, rfl, rfl, by decide⟩).pv 7 _ rfl | exact (HB2.keep hR (by intro h; (try dsimp only at h); first | omega)).pv 7 _ rfl | exact (HB1.keep hR (by intro h; (try dsimp only at h); first | omega)).pv 7 _ rfl | assumption)) (fun done vals w hdk hJ => hJ.src (Keep.refl _) hdk rfl) ?_
            refine rj_vJ (fun done vals w hR hcl hdk hJ hdn hd => v_fieldAddr (off := 10) (ft := 24) (by kernel_rfl) rfl) (fun done vals w hdk hJ => hJ.src (Keep.refl _) hdk rfl) ?_
            refine rj_vJ (fun done vals w hR hcl hdk hJ hdn hd => v_load (by kernel_rfl) (hd 6 rfl) (by first | exact (hJ.at0 hcl hdk ⟨_, _, rfl, rfl, by decide⟩).pv 10 _ rfl | exact (HB2.keep hR (by intro h; (try dsimp only at h); first | omega)).pv 10 _ rfl | exact (HB1.keep hR (by intro h; (try dsimp only at h); first | omega)).pv 10 _ rfl | assumption)) (fun done vals w hdk hJ => hJ.src (Keep.refl _) hdk rfl) ?_
            refine rj_vJ (fun done vals w hR hcl hdk hJ hdn hd => v_fieldAddr (off := 5) (ft := 2) (by kernel_rfl) rfl) (fun done vals w hdk hJ => hJ.src (Keep.refl _) hdk rfl) ?_
            refine rj_d (fun done vals w hR hcl hdk hJ hdn hd => to_store (hd 8 rfl) rfl rfl (by first | exact SlV.one (hd 1 rfl) | exact SlV.one (hd 1 rfl).1 | exact OwV.one (hd 1 rfl) | exact OwV.one (hd 1 rfl).1 | (have h := hd 1 rfl; dsimp only [setS] at h; rw [h]; rfl) | exact (hd 1 rfl).1 | (obtain ⟨_, h⟩ := hd 1 rfl; rw [h]; rfl) | exact (congrArg Value.oneCell' (hd 1 rfl)).trans rfl) (by kernel_rfl) (hJ.at (n := 0) rfl hdk (fun m h => by cases h)) (by rw [conts_len]; exact of_decide_eq_true rfl) (fun w1 hB k z => ⟨k, hJ.step (n := 0) rfl hdk (fun m h => by cases h) (fun k h => by cases h; exact hdn 1 rfl) (once_st rfl) rfl hB⟩)) ?_
            refine rj_vJ (fun done vals w hR hcl hdk hJ hdn hd => v_fieldAddr (off := 6) (ft := 2) (by kernel_rfl) rfl) (fun done vals w hdk hJ => hJ.src (Keep.refl _) hdk rfl) ?_
            refine rj_d (fun done vals w hR hcl hdk hJ hdn hd => to_store (hd 10 rfl) rfl rfl (by first | exact SlV.one (hd 3 rfl) | exact SlV.one (hd 3 rfl).1 | exact OwV.one (hd 3 rfl) | exact OwV.one (hd 3 rfl).1 | (have h := hd 3 rfl; dsimp only [setS] at h; rw [h]; rfl) | exact (hd 3 rfl).1 | (obtain ⟨_, h⟩ := hd 3 rfl; rw [h]; rfl) | exact (congrArg Value.oneCell' (hd 3 rfl)).trans rfl) (by kernel_rfl) (hJ.at (n := 1) rfl hdk (fun m h => ⟨_, by cases h; rfl, hdn 9 rfl⟩)) (by rw [conts_len]; exact of_decide_eq_true rfl) (fun w1 hB k z => ⟨k, hJ.step (n := 1) rfl hdk (fun m h => ⟨_, by cases h; rfl, hdn 9 rfl⟩) (fun k h => by cases h; exact hdn 3 rfl) (once_st rfl) rfl hB⟩)) ?_
            refine rj_vJ (fun done vals w hR hcl hdk hJ hdn hd => v_fieldAddr (off := 7) (ft := 2) (by kernel_rfl) rfl) (fun done vals w hdk hJ => hJ.src (Keep.refl _) hdk rfl) ?_
            refine rj_d (fun done vals w hR hcl hdk hJ hdn hd => to_store (hd 12 rfl) rfl rfl (by first | exact SlV.one (hd 5 rfl) | exact SlV.one (hd 5 rfl).1 | exact OwV.one (hd 5 rfl) | exact OwV.one (hd 5 rfl).1 | (have h := hd 5 rfl; dsimp only [setS] at h; rw [h]; rfl) | exact (hd 5 rfl).1 | (obtain ⟨_, h⟩ := hd 5 rfl; rw [h]; rfl) | exact (congrArg Value.oneCell' (hd 5 rfl)).trans rfl) (by kernel_rfl) (hJ.at (n := 2) rfl hdk (fun m h => ⟨_, by cases h; rfl, hdn 11 rfl⟩)) (by rw [conts_len]; exact of_decide_eq_true rfl) (fun w1 hB k z => ⟨k, hJ.step (n := 2) rfl hdk (fun m h => ⟨_, by cases h; rfl, hdn 11 rfl⟩) (fun k h => by cases h; exact hdn 5 rfl) (once_st rfl) rfl hB⟩)) ?_
            refine rj_vJ (fun done vals w hR hcl hdk hJ hdn hd => v_fieldAddr (off := 10) (ft := 24) (by kernel_rfl) rfl) (fun done vals w hdk hJ => hJ.src (Keep.refl _) hdk rfl) ?_
            refine rj_d (fun done vals w hR hcl hdk hJ hdn hd => to_store (hd 14 rfl) rfl rfl (by first | exact SlV.one (hd 7 rfl) | exact SlV.one (hd 7 rfl).1 | exact OwV.one (hd 7 rfl) | exact OwV.one (hd 7 rfl).1 | (have h := hd 7 rfl; dsimp only [setS] at h; rw [h]; rfl) | exact (hd 7 rfl).1 | (obtain ⟨_, h⟩ := hd 7 rfl; rw [h]; rfl) | exact (congrArg Value.oneCell' (hd 7 rfl)).trans rfl) (by kernel_rfl) (hJ.at (n := 3) rfl hdk (fun m h => ⟨_, by cases h; rfl, hdn 13 rfl⟩)) (by rw [conts_len]; exact of_decide_eq_true rfl) (fun w1 hB k z => ⟨k, hJ.step (n := 3) rfl hdk (fun m h => ⟨_, by cases h; rfl, hdn 13 rfl⟩) (fun k h => by cases h; exact hdn 7 rfl) (once_st rfl) rfl hB⟩)) ?_
            refine rj_nil (fun vals w110 k110 J110 => ?_)
            rintro _ - rfl _ qs1 rfl _ - rfl _ qs3 rfl _ - rfl _ qs5 rfl _ - rfl _ qs7 rfl _ - rfl _ - - _ - rfl _ - - _ - rfl _ - - _ - rfl _ - -
            have zs_k110 := k110.size
            have HX110 := J110.fin
            simp only [conts, sv, ← qs1, ← qs3, ← qs5, ← qs7] at HX110
            replace E := E.step k110 (by intro i hi he; (try dsimp only [NoK] at hi he ⊢); first | exact he.elim | omega | exact he)
            replace HB1 := HB1.keep k110 (by intro h; (try dsimp only at h); first | omega)
            replace HB2 := HB2.keep k110 (by intro h; (try dsimp only at h); first | omega)
            replace HB3 := HX110
            clear HX110
            try simp only [List.set_cons_zero, List.set_cons_succ, setAt, List.take_zero, List.take_succ_cons, List.drop_zero, List.drop_succ_cons, List.nil_append, List.cons_append, List.append_nil, List.length_cons, List.length_nil, Nat.zero_add, Nat.reduceAdd, List.drop_nil] at HB3
            refine fin_nilJ ?_
            refine n_blk ?_
            refine n_then ?_
            refine c_seq ?_
            refine wp_reg (by decide +kernel) ?_
            refine l_v (v_loadA (by kernel_rfl) rfl (by first | exact HB3.pv | exact HB2.pv | exact HB1.pv | assumption) rfl) ?_
            refine l_to (to_storeA (n := 11) rfl rfl (show _ = (Value.agg _) from rfl) (by kernel_rfl) rfl (by first | (simp [slice_one]; done) | (simp only [List.forall_mem_cons, List.cons_append, List.nil_append]; repeat' (first | exact rfl | apply And.intro | (intro u hu; cases hu; done)))) HB2 (by first | exact of_decide_eq_true rfl | (simp; done) | decide) ?_)
            rintro w111 HX111 k111 z111
            have zs_k111 := k111.size
            replace E := E.step k111 (by intro i hi he; (try dsimp only [NoK] at hi he ⊢); first | exact he.elim | omega | exact he)
            replace HB1 := HB1.keep k111 (by intro h; (try dsimp only at h); first | omega)
            replace HB3 := HB3.keep k111 (by intro h; (try dsimp only at h); first | omega)
            replace HB2 := HX111
            clear HX111
            try simp only [List.set_cons_zero, List.set_cons_succ, setAt, List.take_zero, List.take_succ_cons, List.drop_zero, List.drop_succ_cons, List.nil_append, List.cons_append, List.append_nil, List.length_cons, List.length_nil, Nat.zero_add, Nat.reduceAdd, List.drop_nil] at HB2
            refine l_nil ?_
            refine n_then ?_
            refine c_ret ?_
            refine ret1c (n := 11) rfl (by decide) rfl (by kernel_rfl) HB2.pv rfl ?_
            exact ⟨bareV5 (dtrue h5), E⟩
          · skip
            refine c_seq ?_
            refine c_seq ?_
            refine wp_reg (by decide +kernel) ?_
            refine l_v (v_eql rfl rfl) ?_
            refine l_v (v_assign (t := .bool _) rfl) ?_
            refine l_nil ?_
            refine n_then ?_
            refine c_cond rfl rfl (fun h6 => ?_) (fun h6 => ?_)
            · skip
              refine c_skip ?_
              refine n_then ?_
              refine c_cond rfl rfl (fun h6b => ?_) (fun h6b => ?_)
              · skip
                refine wp_reg (by decide +kernel) ?_
                refine l_v (v_fieldAddr (off := 8) (ft := 23) (by kernel_rfl) rfl) ?_
                refine l_v (v_load (by kernel_rfl) rfl (by first | exact HB3.pv 8 _ rfl | exact HB2.pv 8 _ rfl | exact HB1.pv 8 _ rfl | assumption)) ?_
                refine l_v (v_fieldAddr (off := 8) (ft := 23) (by kernel_rfl) rfl) ?_
                refine l_to (to_store rfl rfl (show _ = (Value.slice _ _ _) from rfl) rfl (by kernel_rfl) HB3 (by first | exact of_decide_eq_true rfl | (simp; done) | decide) ?_)
                rintro w112 HX112 k112 z112
                have zs_k112 := k112.size
                replace E := E.step k112 (by intro i hi he; (try dsimp only [NoK] at hi he ⊢); first | exact he.elim | omega | exact he)
                replace HB1 := HB1.keep k112 (by intro h; (try dsimp only at h); first | omega)
                replace HB2 := HB2.keep k112 (by intro h; (try dsimp only at h); first | omega)
                replace HB3 := HX112
                clear HX112
                try simp only [List.set_cons_zero, List.set_cons_succ, setAt, List.take_zero, List.take_succ_cons, List.drop_zero, List.drop_succ_cons, List.nil_append, List.cons_append, List.append_nil, List.length_cons, List.length_nil, Nat.zero_add, Nat.reduceAdd, List.drop_nil] at HB3
                refine l_nil ?_
                refine n_blk ?_
                refine n_then ?_
                refine c_seq ?_
                refine wp_reg (by decide +kernel) ?_
                refine l_v (v_loadA (by kernel_rfl) rfl (by first | exact HB3.pv | exact HB2.pv | exact HB1.pv | assumption) rfl) ?_
                refine l_to (to_storeA (n := 11) rfl rfl (show _ = (Value.agg _) from rfl) (by kernel_rfl) rfl (by first | (simp [slice_one]; done) | (simp only [List.forall_mem_cons, List.cons_append, List.nil_append]; repeat' (first | exact rfl | apply And.intro | (intro u hu; cases hu; done)))) HB2 (by first | exact of_decide_eq_true rfl | (simp; done) | decide) ?_)
                rintro w113 HX113 k113 z113
                have zs_k113 := k113.size
                replace E := E.step k113 (by intro i hi he; (try dsimp only [NoK] at hi he ⊢); first | exact he.elim | omega | exact he)
                replace HB1 := HB1.keep k113 (by intro h; (try dsimp only at h); first | omega)
                replace HB3 := HB3.keep k113 (by intro h; (try dsimp only at h); first | omega)
                replace HB2 := HX113
                clear HX113
                try simp only [List.set_cons_zero, List.set_cons_succ, setAt, List.take_zero, List.take_succ_cons, List.drop_zero, List.drop_succ_cons, List.nil_append, List.cons_append, List.append_nil, List.length_cons, List.length_nil, Nat.zero_add, Nat.reduceAdd, List.drop_nil] at HB2
                refine l_nil ?_
                refine n_then ?_
                refine c_ret ?_
                refine ret1c (n := 11) rfl (by decide) rfl (by kernel_rfl) HB2.pv rfl ?_
                exact ⟨bareV6 (dtrue h6), E⟩
              · skip
                simp [h6] at h6b
            · skip
              refine wp_reg (by decide +kernel) ?_
              refine l_v (v_eql rfl rfl) ?_
              refine l_v (v_assign (t := .bool _) rfl) ?_
              refine l_nil ?_
              refine n_then ?_
              refine c_cond rfl rfl (fun h7 => ?_) (fun h7 => ?_)
              · skip
                refine wp_reg (by decide +kernel) ?_
                refine l_v (v_fieldAddr (off := 8) (ft := 23) (by kernel_rfl) rfl) ?_
                refine l_v (v_load (by kernel_rfl) rfl (by first | exact HB3.pv 8 _ rfl | exact HB2.pv 8 _ rfl | exact HB1.pv 8 _ rfl | assumption)) ?_
                refine l_v (v_fieldAddr (off := 8) (ft := 23) (by kernel_rfl) rfl) ?_
                refine l_to (to_store rfl rfl (show _ = (Value.slice _ _ _) from rfl) rfl (by kernel_rfl) HB3 (by first | exact of_decide_eq_true rfl | (simp; done) | decide) ?_)
                rintro w114 HX114 k114 z114
                have zs_k114 := k114.size
                replace E := E.step k114 (by intro i hi he; (try dsimp only [NoK] at hi he ⊢); first | exact he.elim | omega | exact he)
                replace HB1 := HB1.keep k114 (by intro h; (try dsimp only at h); first | omega)
                replace HB2 := HB2.keep k114 (by intro h; (try dsimp only at h); first | omega)
                replace HB3 := HX114
                clear HX114
                try simp only [List.set_cons_zero, List.set_cons_succ, setAt, List.take_zero, List.take_succ_cons, List.drop_zero, List.drop_succ_cons, List.nil_append, List.cons_append, List.append_nil, List.length_cons, List.length_nil, Nat.zero_add, Nat.reduceAdd, List.drop_nil] at HB3
                refine l_nil ?_
                refine n_blk ?_
                refine n_then ?_
                refine c_seq ?_
                refine wp_reg (by decide +kernel) ?_
                refine l_v (v_loadA (by kernel_rfl) rfl (by first | exact HB3.pv | exact HB2.pv | exact HB1.pv | assumption) rfl) ?_
                refine l_to (to_storeA (n := 11) rfl rfl (show _ = (Value.agg _) from rfl) (by kernel_rfl) rfl (by first | (simp [slice_one]; done) | (simp only [List.forall_mem_cons, List.cons_append, List.nil_append]; repeat' (first | exact rfl | apply And.intro | (intro u hu; cases hu; done)))) HB2 (by first | exact of_decide_eq_true rfl | (simp; done) | decide) ?_)
                rintro w115 HX115 k115 z115
                have zs_k115 := k115.size
                replace E := E.step k115 (by intro i hi he; (try dsimp only [NoK] at hi he ⊢); first | exact he.elim | omega | exact he)
                replace HB1 := HB1.keep k115 (by intro h; (try dsimp only at h); first | omega)
                replace HB3 := HB3.keep k115 (by intro h; (try dsimp only at h); first | omega)
                replace HB2 := HX115
                clear HX115
                try simp only [List.set_cons_zero, List.set_cons_succ, setAt, List.take_zero, List.take_succ_cons, List.drop_zero, List.drop_succ_cons, List.nil_append, List.cons_append, List.append_nil, List.length_cons, List.length_nil, Nat.zero_add, Nat.reduceAdd, List.drop_nil] at HB2
                refine l_nil ?_
                refine n_then ?_
                refine c_ret ?_
                refine ret1c (n := 11) rfl (by decide) rfl (by kernel_rfl) HB2.pv rfl ?_
                exact ⟨bareV7 (dtrue h7), E⟩
              · skip
                refine c_skip ?_
                refine n_blk ?_
                refine n_then ?_
                refine c_seq ?_
                refine wp_reg (by decide +kernel) ?_
                refine l_v (v_loadA (by kernel_rfl) rfl (by first | exact HB3.pv | exact HB2.pv | exact HB1.pv | assumption) rfl) ?_
                refine l_to (to_storeA (n := 11) rfl rfl (show _ = (Value.agg _) from rfl) (by kernel_rfl) rfl (by first | (simp [slice_one]; done) | (simp only [List.forall_mem_cons, List.cons_append, List.nil_append]; repeat' (first | exact rfl | apply And.intro | (intro u hu; cases hu; done)))) HB2 (by first | exact of_decide_eq_true rfl | (simp; done) | decide) ?_)
                rintro w116 HX116 k116 z116
                have zs_k116 := k116.size
                replace E := E.step k116 (by intro i hi he; (try dsimp only [NoK] at hi he ⊢); first | exact he.elim | omega | exact he)
                replace HB1 := HB1.keep k116 (by intro h; (try dsimp only at h); first | omega)
                replace HB3 := HB3.keep k116 (by intro h; (try dsimp only at h); first | omega)
                replace HB2 := HX116
                clear HX116
                try simp only [List.set_cons_zero, List.set_cons_succ, setAt, List.take_zero, List.take_succ_cons, List.drop_zero, List.drop_succ_cons, List.nil_append, List.cons_append, List.append_nil, List.length_cons, List.length_nil, Nat.zero_add, Nat.reduceAdd, List.drop_nil] at HB2
                refine l_nil ?_
                refine n_then ?_
                refine c_ret ?_
                refine ret1c (n := 11) rfl (by decide) rfl (by kernel_rfl) HB2.pv rfl ?_
                exact ⟨bareV0 (dfalse h1) (dfalse h2) (dfalse h3) (dfalse h4) (dfalse h5) (dfalse h6) (dfalse h7), E⟩
theorem refMay_c {w : World} {F : Nat → Prop} {v : Value} {m : Ms} (HG1 : AgV tMs w F v m) : CallsR Try.prog 16 #[v] w (fun o w' => o = .bool (mayN m) ∧ Ext w w') := by
  obtain ⟨a1, c1, a2, c2, rfl, HSe, HSs, hw⟩ := HG1.ms
  have hmx := HSe.len_max
  refine enter 136 Try.func16 rfl rfl (by simp) ?_
  refine c_seq ?_
  have E := Keep.refl (K := NoK) w
  replace HSe := HSe.all
  replace HSs := HSs.all
  refine wp_reg (by decide +kernel) ?_
  refine l_to (to_box (show _ = (Value.agg _) from rfl) ?_)
  rintro b1 w1 zb1 HB1 e1 z1
  have zs_e1 := e1.size
  replace E := E.trans (Ext.keep e1)
  replace HSe := HSe.ext e1
  replace HSs := HSs.ext e1
  try simp only [Value.cells] at HB1
  refine l_v (v_assign rfl) ?_
  refine l_nil ?_
  refine n_then ?_
  refine c_seq ?_
  refine c_seq ?_
  refine wp_reg (by decide +kernel) ?_
  refine l_v (v_fieldAddr (off := 0) (ft := 22) (by kernel_rfl) rfl) ?_
  refine l_v (v_load (by kernel_rfl) rfl (by first | exact HB1.pv 0 _ rfl | assumption)) ?_
  refine l_v (v_lss rfl rfl) ?_
  refine l_v (v_move (t := .bool _) rfl) ?_
  refine l_g1 rfl rfl (fun hG => v_fieldAddr (off := 0) (ft := 22) (by kernel_rfl) rfl) ?_
  refine l_g1 rfl rfl (fun hG => v_load (by kernel_rfl) (gd hG rfl) (by first | exact HB1.pv 0 _ rfl | assumption)) ?_
  refine l_g1 rfl rfl (fun hG => v_gtr (gd hG rfl) rfl) ?_
  refine l_v (v_or rfl rfl) ?_
  refine l_v (v_move (t := .bool _) rfl) ?_
  refine l_g1 rfl rfl (fun hG => v_fieldAddr (off := 1) (ft := 3) (by kernel_rfl) rfl) ?_
  refine l_g1 rfl rfl (fun hG => v_load (by kernel_rfl) (gd hG rfl) (by first | exact HB1.pv 1 _ rfl | assumption)) ?_
  refine l_g1 rfl rfl (fun hG => v_lss (gd hG rfl) rfl) ?_
  refine l_v (v_or rfl rfl) ?_
  refine l_v (v_move (t := .bool _) rfl) ?_
  refine l_g1 rfl rfl (fun hG => v_fieldAddr (off := 1) (ft := 3) (by kernel_rfl) rfl) ?_
  refine l_g1 rfl rfl (fun hG => v_load (by kernel_rfl) (gd hG rfl) (by first | exact HB1.pv 1 _ rfl | assumption)) ?_
  refine l_g1 rfl rfl (fun hG => v_geq (gd hG rfl) rfl) ?_
  refine l_v (v_or rfl rfl) ?_
  refine l_v (v_move (t := .bool _) rfl) ?_
  refine l_g1 rfl rfl (fun hG => v_fieldAddr (off := 2) (ft := 3) (by kernel_rfl) rfl) ?_
  refine l_g1 rfl rfl (fun hG => v_load (by kernel_rfl) (gd hG rfl) (by first | exact HB1.pv 2 _ rfl | assumption)) ?_
  refine l_g1 rfl rfl (fun hG => v_lss (gd hG rfl) rfl) ?_
  refine l_v (v_or rfl rfl) ?_
  refine l_v (v_move (t := .bool _) rfl) ?_
  refine l_g1 rfl rfl (fun hG => v_fieldAddr (off := 2) (ft := 3) (by kernel_rfl) rfl) ?_
  refine l_g1 rfl rfl (fun hG => v_load (by kernel_rfl) (gd hG rfl) (by first | exact HB1.pv 2 _ rfl | assumption)) ?_
  refine l_g1 rfl rfl (fun hG => v_geq (gd hG rfl) rfl) ?_
  refine l_v (v_or rfl rfl) ?_
  refine l_v (v_move (t := .bool _) rfl) ?_
  refine l_g1 rfl rfl (fun hG => v_fieldAddr (off := 1) (ft := 3) (by kernel_rfl) rfl) ?_
  refine l_g1 rfl rfl (fun hG => v_load (by kernel_rfl) (gd hG rfl) (by first | exact HB1.pv 1 _ rfl | assumption)) ?_
  refine l_g1 rfl rfl (fun hG => v_fieldAddr (off := 2) (ft := 3) (by kernel_rfl) rfl) ?_
  refine l_g1 rfl rfl (fun hG => v_load (by kernel_rfl) (gd hG rfl) (by first | exact HB1.pv 2 _ rfl | assumption)) ?_
  refine l_g1 rfl rfl (fun hG => v_eql (gd hG rfl) (gd hG rfl)) ?_
  refine l_v (v_or rfl rfl) ?_
  refine l_v (v_move (t := .bool _) rfl) ?_
  refine l_g1 rfl rfl (fun hG => v_fieldAddr (off := 3) (ft := 3) (by kernel_rfl) rfl) ?_
  refine l_g1 rfl rfl (fun hG => v_load (by kernel_rfl) (gd hG rfl) (by first | exact HB1.pv 3 _ rfl | assumption)) ?_
  refine l_g1 rfl rfl (fun hG => v_lss (gd hG rfl) rfl) ?_
  refine l_v (v_or rfl rfl) ?_
  refine l_v (v_move (t := .bool _) rfl) ?_
  refine l_g1 rfl rfl (fun hG => v_fieldAddr (off := 3) (ft := 3) (by kernel_rfl) rfl) ?_
  refine l_g1 rfl rfl (fun hG => v_load (by kernel_rfl) (gd hG rfl) (by first | exact HB1.pv 3 _ rfl | assumption)) ?_
  refine l_g1 rfl rfl (fun hG => v_geq (gd hG rfl) rfl) ?_
  refine l_v (v_or rfl rfl) ?_
  refine l_v (v_move (t := .bool _) rfl) ?_
  refine l_g1 rfl rfl (fun hG => v_fieldAddr (off := 4) (ft := 2) (by kernel_rfl) rfl) ?_
  refine l_g1 rfl rfl (fun hG => v_load (by kernel_rfl) (gd hG rfl) (by first | exact HB1.pv 4 _ rfl | assumption)) ?_
  refine l_g1 rfl rfl (fun hG => v_lss (gd hG rfl) rfl) ?_
  refine l_v (v_or rfl rfl) ?_
  refine l_v (v_move (t := .bool _) rfl) ?_
  refine l_g1 rfl rfl (fun hG => v_fieldAddr (off := 4) (ft := 2) (by kernel_rfl) rfl) ?_
  refine l_g1 rfl rfl (fun hG => v_load (by kernel_rfl) (gd hG rfl) (by first | exact HB1.pv 4 _ rfl | assumption)) ?_
  refine l_g1 rfl rfl (fun hG => v_gtr (gd hG rfl) rfl) ?_
  refine l_v (v_or rfl rfl) ?_
  refine l_nil ?_
  refine n_then ?_
  refine c_cond rfl rfl (fun hA => ?_) (fun hA => ?_)
  · skip
    refine c_seq ?_
    refine wp_reg (by decide +kernel) ?_
    refine l_v (v_assign rfl) ?_
    refine l_nil ?_
    refine n_then ?_
    refine c_ret ?_
    refine r_then ?_
    refine ret1v rfl (by decide) (show _ = (Value.bool _) from rfl) ?_
    refine ⟨?_, E⟩
    rw [mayN_f fun h => by rw [mayA_iff.2 (mayN_iff.1 h).1] at hA; cases hA]
  · skip
    refine c_skip ?_
    refine n_then ?_
    refine c_seq ?_
    refine c_seq ?_
    refine wp_regd (NoK) (by kernel_rfl) (by decide +kernel) (by decide +kernel) ?_
    refine rt_v (fun vals w hR hd => v_fieldAddr (off := 5) (ft := 2) (by kernel_rfl) rfl) ?_
    refine rt_v (fun vals w hR hd => v_load (by kernel_rfl) (hd 0 rfl) (by first | exact (HB1.ext hR).pv 5 _ rfl | assumption)) ?_
    refine rt_vf (fun vals w hR hd => to_f1 (by kernel_rfl) (hd 1 rfl) (number_c)) ?_
    refine rt_v (fun vals w hR hd => v_not (hd 2 rfl)) ?_
    refine rt_v (fun vals w hR hd => v_move (t := .bool _) (hd 3 rfl)) ?_
    refine rt_g1 rfl (fun vals w hd => hd 4 rfl) (fun vals w hR hd hG => v_fieldAddr (off := 6) (ft := 2) (by kernel_rfl) rfl) ?_
    refine rt_g1 rfl (fun vals w hd => hd 4 rfl) (fun vals w hR hd hG => v_load (by kernel_rfl) (gd hG (hd 5 rfl)) (by first | exact (HB1.ext hR).pv 6 _ rfl | assumption)) ?_
    refine rt_g1f rfl (fun vals w hd => hd 4 rfl) (fun vals w hR hd hG => to_f1 (by kernel_rfl) (gd hG (hd 6 rfl)) (number_c)) ?_
    refine rt_g1 rfl (fun vals w hd => hd 4 rfl) (fun vals w hR hd hG => v_not (gd hG (hd 7 rfl))) ?_
    refine rt_v (fun vals w hR hd => v_or (hd 4 rfl) (hd 8 rfl)) ?_
    refine rt_v (fun vals w hR hd => v_move (t := .bool _) (hd 9 rfl)) ?_
    refine rt_g1 rfl (fun vals w hd => hd 10 rfl) (fun vals w hR hd hG => v_fieldAddr (off := 7) (ft := 2) (by kernel_rfl) rfl) ?_
    refine rt_g1 rfl (fun vals w hd => hd 10 rfl) (fun vals w hR hd hG => v_load (by kernel_rfl) (gd hG (hd 11 rfl)) (by first | exact (HB1.ext hR).pv 7 _ rfl | assumption)) ?_
    refine rt_g1f rfl (fun vals w hd => hd 10 rfl) (fun vals w hR hd hG => to_f1 (by kernel_rfl) (gd hG (hd 12 rfl)) (number_c)) ?_
    refine rt_g1 rfl (fun vals w hd => hd 10 rfl) (fun vals w hR hd hG => v_not (gd hG (hd 13 rfl))) ?_
    refine rt_v (fun vals w hR hd => v_or (hd 10 rfl) (hd 14 rfl)) ?_
    refine rt_v (fun vals w hR hd => v_move (t := .bool _) (hd 15 rfl)) ?_
    refine rt_g1 rfl (fun vals w hd => hd 16 rfl) (fun vals w hR hd hG => v_fieldAddr (off := 10) (ft := 24) (by kernel_rfl) rfl) ?_
    refine rt_g1 rfl (fun vals w hd => hd 16 rfl) (fun vals w hR hd hG => v_load (by kernel_rfl) (gd hG (hd 17 rfl)) (by first | exact (HB1.ext hR).pv 10 _ rfl | assumption)) ?_
    refine rt_g1 rfl (fun vals w hd => hd 16 rfl) (fun vals w hR hd hG => v_len (et := 5) (by kernel_rfl) (gd hG (hd 18 rfl))) ?_
    refine rt_g1 rfl (fun vals w hd => hd 16 rfl) (fun vals w hR hd hG => v_gtr (gd hG (hd 19 rfl)) rfl) ?_
    refine rt_v (fun vals w hR hd => v_or (hd 16 rfl) (hd 20 rfl)) ?_
    refine rt_v (fun vals w hR hd => v_move (t := .bool _) (hd 21 rfl)) ?_
    refine rt_g1 rfl (fun vals w hd => hd 22 rfl) (fun vals w hR hd hG => v_fieldAddr (off := 8) (ft := 23) (by kernel_rfl) rfl) ?_
    refine rt_g1 rfl (fun vals w hd => hd 22 rfl) (fun vals w hR hd hG => v_load (by kernel_rfl) (gd hG (hd 23 rfl)) (by first | exact (HB1.ext hR).pv 8 _ rfl | assumption)) ?_
    refine rt_g1 rfl (fun vals w hd => hd 22 rfl) (fun vals w hR hd hG => v_len (et := 73) (by kernel_rfl) (gd hG (hd 24 rfl))) ?_
    refine rt_g1 rfl (fun vals w hd => hd 22 rfl) (fun vals w hR hd hG => v_gtr (gd hG (hd 25 rfl)) rfl) ?_
    refine rt_v (fun vals w hR hd => v_or (hd 22 rfl) (hd 26 rfl)) ?_
    refine rt_v (fun vals w hR hd => v_move (t := .bool _) (hd 27 rfl)) ?_
    refine rt_g1 rfl (fun vals w hd => hd 28 rfl) (fun vals w hR hd hG => v_loadA (by kernel_rfl) rfl (by first | exact (HB1.ext hR).pv | assumption) rfl) ?_
    refine rt_g1f rfl (fun vals w hd => hd 28 rfl) (fun vals w hR hd hG => to_f1 (by kernel_rfl) (gd hG (hd 29 rfl)) (bare_c)) ?_
    refine rt_g1 rfl (fun vals w hd => hd 28 rfl) (fun vals w hR hd hG => v_loadA (by kernel_rfl) rfl (by first | exact (HB1.ext hR).pv | assumption) rfl) ?_
    refine rt_g1f rfl (fun vals w hd => hd 28 rfl) (fun vals w hR hd hG => to_f2 (by kernel_rfl) (gd hG (hd 30 rfl)) (gd hG (hd 31 rfl)) (refSame_c (AgV.bare (HSe.ext hR) (HSs.ext hR) hw) (AgV.mkMs (HSe.ext hR) (HSs.ext hR) hw))) ?_
    refine rt_g1 rfl (fun vals w hd => hd 28 rfl) (fun vals w hR hd hG => v_not (gd hG (hd 32 rfl))) ?_
    refine rt_v (fun vals w hR hd => v_or (hd 28 rfl) (hd 33 rfl)) ?_
    refine rt_nil (fun w101 e101 => ?_)
    rintro _ rfl _ rfl _ rfl _ rfl _ rfl _ rfl _ rfl _ rfl _ rfl _ rfl _ rfl _ rfl _ rfl _ rfl _ rfl _ rfl _ rfl _ rfl _ rfl _ rfl _ rfl _ rfl _ rfl _ rfl _ rfl _ rfl _ rfl _ rfl _ rfl _ rfl _ rfl _ rfl _ rfl _ rfl _ rfl
    have zs_e101 := e101.size
    replace E := E.trans (Ext.keep e101)
    replace HSe := HSe.ext e101
    replace HSs := HSs.ext e101
    replace HB1 := HB1.ext e101
    refine fin_nil ?_
    refine n_then ?_
    refine c_cond rfl rfl (fun hB => ?_) (fun hB => ?_)
    · skip
      refine c_seq ?_
      refine wp_reg (by decide +kernel) ?_
      refine l_v (v_assign rfl) ?_
      refine l_nil ?_
      refine n_then ?_
      refine c_ret ?_
      refine r_then ?_
      refine ret1v rfl (by decide) (show _ = (Value.bool _) from rfl) ?_
      refine ⟨?_, E⟩
      rw [mayN_f fun h => by rw [mayB_iff.2 (mayN_iff.1 h).2.1] at hB; cases hB]
    · skip
      refine c_skip ?_
      refine n_then ?_
      refine c_seq ?_
      refine c_seq ?_
      refine wp_reg (by decide +kernel) ?_
      refine l_v (v_assign rfl) ?_
      refine l_nil ?_
      refine n_then ?_
      refine c_block ?_
      refine c_loop (τ := Nat) [2, 3, 94, 95, 96, 97, 98, 99, 100, 101, 102, 103, 104, 105, 106, 107, 108, 109, 110, 111, 112, 113, 114, 115, 116, 117, 118, 119, 120, 121, 122, 123, 124, 125, 126] (fun i => [(3, .int .i64 i)]) (fun i W => Ext w W ∧ Keep (NoK) w101 W ∧ i ≤ m.ents.length ∧ (m.ents.take i).any badE = false) (fun i => m.ents.length - i) 0 (by exact ⟨rfl, trivial⟩) (by exact ⟨E, Keep.refl _, Nat.zero_le _, rfl⟩) ?_
      rintro i w102 j ⟨E, EL1, h1, h2⟩
      have zs_EL1 := EL1.size
      replace HSe := HSe.ext EL1
      replace HSs := HSs.ext EL1
      replace HB1 := HB1.ext EL1
      refine c_seq ?_
      refine c_seq ?_
      refine wp_reg (by decide +kernel) ?_
      refine l_v (v_move (t := .int _ _) rfl) ?_
      refine l_v (v_fieldAddr (off := 8) (ft := 23) (by kernel_rfl) rfl) ?_
      refine l_v (v_load (by kernel_rfl) rfl (by first | exact HB1.pv 8 _ rfl | assumption)) ?_
      refine l_v (v_len (et := 73) (by kernel_rfl) rfl) ?_
      refine l_v (v_lss rfl rfl) ?_
      refine l_nil ?_
      refine n_then ?_
      refine c_cond rfl rfl (fun hlt => ?_) (fun hlt => ?_)
      · skip
        have hlt := dtrue hlt
        obtain ⟨r, hx, hdr⟩ := getE (l := m.ents) (i := i) (by omega)
        obtain ⟨q1, cs1, hqq1, hq1, _, HP1, hr1⟩ := HSe.el hx
        subst hqq1
        obtain ⟨b1, d1, rfl, HS11, _⟩ := tEn_cells hr1
        refine c_skip ?_
        refine n_then ?_
        refine c_seq ?_
        refine c_block ?_
        refine c_seq ?_
        refine wp_reg (by decide +kernel) ?_
        refine l_v (v_fieldAddr (off := 8) (ft := 23) (by kernel_rfl) rfl) ?_
        refine l_v (v_load (by kernel_rfl) rfl (by first | exact HP1 8 _ rfl | exact HB1.pv 8 _ rfl | assumption)) ?_
        refine l_v (v_move (t := .int _ _) rfl) ?_
        refine l_v (v_indexAddr (et := 73) (sz := 2) (k := i) (by kernel_rfl) (by kernel_rfl) rfl rfl (by first | rfl | omega) (by omega)) ?_
        refine l_v (v_fieldAddr (off := 0) (ft := 2) (by kernel_rfl) rfl) ?_
        refine l_v (v_load (by kernel_rfl) rfl (by first | exact HP1 0 _ rfl | exact HB1.pv 0 _ rfl | assumption)) ?_
        refine l_v (v_lss rfl rfl) ?_
        refine l_v (v_move (t := .bool _) rfl) ?_
        refine l_g1 rfl rfl (fun hG => v_fieldAddr (off := 8) (ft := 23) (by kernel_rfl) rfl) ?_
        refine l_g1 rfl rfl (fun hG => v_load (by kernel_rfl) (gd hG rfl) (by first | exact HP1 8 _ rfl | exact HB1.pv 8 _ rfl | assumption)) ?_
        refine l_g1 rfl rfl (fun hG => v_move (t := .int _ _) rfl) ?_
        refine l_g1 rfl rfl (fun hG => v_indexAddr (et := 73) (sz := 2) (k := i) (by kernel_rfl) (by kernel_rfl) (gd hG rfl) (gd hG rfl) (by first | rfl | omega) (by omega)) ?_
        refine l_g1 rfl rfl (fun hG => v_fieldAddr (off := 0) (ft := 2) (by kernel_rfl) (gd hG rfl)) ?_
        refine l_g1 rfl rfl (fun hG => v_load (by kernel_rfl) (gd hG rfl) (by first | exact HP1 0 _ rfl | exact HB1.pv 0 _ rfl | assumption)) ?_
        refine l_g1 rfl rfl (fun hG => v_gtr (gd hG rfl) rfl) ?_
        refine l_v (v_or rfl rfl) ?_
        refine l_v (v_move (t := .bool _) rfl) ?_
        refine l_g1 rfl rfl (fun hG => v_fieldAddr (off := 8) (ft := 23) (by kernel_rfl) rfl) ?_
        refine l_g1 rfl rfl (fun hG => v_load (by kernel_rfl) (gd hG rfl) (by first | exact HP1 8 _ rfl | exact HB1.pv 8 _ rfl | assumption)) ?_
        refine l_g1 rfl rfl (fun hG => v_move (t := .int _ _) rfl) ?_
        refine l_g1 rfl rfl (fun hG => v_indexAddr (et := 73) (sz := 2) (k := i) (by kernel_rfl) (by kernel_rfl) (gd hG rfl) (gd hG rfl) (by first | rfl | omega) (by omega)) ?_
        refine l_g1 rfl rfl (fun hG => v_fieldAddr (off := 1) (ft := 24) (by kernel_rfl) (gd hG rfl)) ?_
        refine l_g1 rfl rfl (fun hG => v_load (by kernel_rfl) (gd hG rfl) (by first | exact HP1 1 _ rfl | exact HB1.pv 1 _ rfl | assumption)) ?_
        refine l_g1 rfl rfl (fun hG => v_len (et := 5) (by kernel_rfl) (gd hG rfl)) ?_
        refine l_g1 rfl rfl (fun hG => v_gtr (gd hG rfl) rfl) ?_
        refine l_v (v_or rfl rfl) ?_
        refine l_nil ?_
        refine n_then ?_
        refine c_cond rfl rfl (fun h38 => ?_) (fun h38 => ?_)
        · skip
          refine c_seq ?_
          refine wp_reg (by decide +kernel) ?_
          refine l_v (v_assign rfl) ?_
          refine l_nil ?_
          refine n_then ?_
          refine c_ret ?_
          refine r_blk ?_
          refine r_then ?_
          refine r_then ?_
          refine r_blk ?_
          refine r_then ?_
          refine ret1v rfl (by decide) (show _ = (Value.bool _) from rfl) ?_
          refine ⟨?_, E⟩
          rw [badE_eq] at h38
          rw [mayN_f fun h => by have h5 := (mayN_iff.1 h).2.2.1; rw [List.any_eq_false] at h5; exact h5 r (List.mem_of_getElem? hx) h38]
        · skip
          refine c_skip ?_
          refine n_blk ?_
          refine n_then ?_
          refine wp_reg (by decide +kernel) ?_
          refine l_v (v_move (t := .int _ _) rfl) ?_
          refine l_v (v_add rfl rfl (by first | exact wr_i64 (by omega) (by omega) | rfl)) ?_
          refine l_v (v_assign (t := .int _ _) rfl) ?_
          refine l_nil ?_
          refine n_then ?_
          refine ⟨i + 1, _, rfl, by (repeat (first | exact Off.of_over _ _ _ | refine Off.upd ?_ (by decide) _ | refine Off.overs ?_ (by decide) _)), ⟨by first | rfl | exact congrArg (Value.int _) (by omega) | (simp; done), trivial⟩, ⟨E, EL1, ?_⟩, ?_⟩
          · skip
            refine ⟨by omega, ?_⟩
            rw [badE_eq] at h38
            rw [List.take_add_one, hx, List.any_append, h2]
            simpa using h38
          · (dsimp only; omega)
      · skip
        refine c_exit ?_
        refine x_then ?_
        refine x_then ?_
        refine x_hit ?_
        refine n_then ?_
        refine c_seq ?_
        refine wp_reg (by decide +kernel) ?_
        refine l_v (v_fieldAddr (off := 0) (ft := 22) (by kernel_rfl) rfl) ?_
        refine l_v (v_load (by kernel_rfl) rfl (by first | exact HB1.pv 0 _ rfl | assumption)) ?_
        refine l_v (v_lss rfl rfl) ?_
        refine l_v (v_move (t := .bool _) rfl) ?_
        refine l_g1 rfl rfl (fun hG => v_fieldAddr (off := 8) (ft := 23) (by kernel_rfl) rfl) ?_
        refine l_g1 rfl rfl (fun hG => v_load (by kernel_rfl) (gd hG rfl) (by first | exact HB1.pv 8 _ rfl | assumption)) ?_
        refine l_g1 rfl rfl (fun hG => v_len (et := 73) (by kernel_rfl) (gd hG rfl)) ?_
        refine l_g1 rfl rfl (fun hG => v_eql (gd hG rfl) rfl) ?_
        refine l_v (v_or rfl rfl) ?_
        refine l_v (v_assign (t := .bool _) rfl) ?_
        refine l_nil ?_
        refine n_then ?_
        refine c_ret ?_
        refine ret1v rfl (by decide) (show _ = (Value.bool _) from rfl) ?_
        refine ⟨?_, E⟩
        have h := dfalse hlt
        rw [mayN_last (mayA_iff.1 hA) (mayB_iff.1 hB) (by rw [← List.take_of_length_le (l := m.ents) (i := i) (by omega)]; exact h2)]
end Go.Proofs.Ytaidpdjlchnonaa
