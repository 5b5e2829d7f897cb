/- A part of the proof: steps and lemmas for the walks through the given program. -/
import Derived.Test.YtaidpdjlchnonaaN3
import Derived.Test.YtaidpdjlchnonaaGn
import Derived.Test.YtaidpdjlchnonaaGx
import Derived.Test.YtaidpdjlchnonaaGu
namespace Go.Proofs.Ytaidpdjlchnonaa
open Go.Vc
set_option linter.unusedVariables false
set_option linter.unusedSimpArgs false
set_option maxRecDepth 100000

theorem number_c {w : World} {n : Int} : CallsR Try.prog 51 #[.int .i64 n] w (fun o w' => o = .bool (wiB n 0 2147483647) ∧ Ext w w') := by
  refine enter 9 Try.func51 rfl rfl (by simp) ?_
  refine c_seq ?_
  have E := Keep.refl (K := NoK) w
  refine wp_reg (by decide +kernel) ?_
  refine l_v (v_assign rfl) ?_
  refine l_nil ?_
  refine n_then ?_
  refine c_seq ?_
  refine wp_reg (by decide +kernel) ?_
  refine l_v (v_move (t := .int _ _) rfl) ?_
  refine l_v (v_geq rfl rfl) ?_
  refine l_v (v_move (t := .bool _) rfl) ?_
  refine l_g1 rfl rfl (fun hG => v_move (t := .int _ _) rfl) ?_
  refine l_g1 rfl rfl (fun hG => v_leq (gd hG rfl) rfl) ?_
  refine l_v (v_and rfl rfl) ?_
  refine l_v (v_assign (t := .bool _) rfl) ?_
  refine l_nil ?_
  refine n_then ?_
  refine c_ret ?_
  refine ret1v rfl (by decide) (show _ = (Value.bool _) from rfl) ?_
  refine ⟨?_, E⟩
  rw [wiB]
  all_goals (cases decide (0 ≤ n) <;> rfl)
theorem bare_c {w : World} {m : Ms} {a1 a2 : Option Addr} {n1 c1 n2 c2 : Nat} : CallsR Try.prog 52 #[.agg #[.int .i64 m.kind, .int .i64 m.fr, .int .i64 m.to, .int .i64 m.grp, .int .i64 m.term, .int .i64 m.idx, .int .i64 m.lt, .int .i64 m.com, .slice a1 n1 c1, .bool m.ok, .slice a2 n2 c2]] w (fun o w' => o = bareV m (.slice a1 n1 c1) (.slice a2 n2 c2) ∧ Ext w w') := by
  refine enter 73 Try.func52 rfl rfl (by simp) ?_
  refine c_seq ?_
  have E := Keep.refl (K := NoK) w
  refine wp_reg (by decide +kernel) ?_
  refine l_to (to_box (show _ = (Value.agg _) from rfl) ?_)
  rintro b1 w1 zb1 HB1 e1 z1
  have zs_e1 := e1.size
  replace E := E.trans (Ext.keep e1)
  try simp only [Value.cells] at HB1
  refine l_to (to_alloc (z := (.agg #[.int .i64 0, .int .i64 0, .int .i64 0, .int .i64 0, .int .i64 0, .int .i64 0, .int .i64 0, .int .i64 0, .slice none 0 0, .bool false, .slice none 0 0])) (by unfold kZero; kernel_rfl) ?_)
  rintro b2 w2 zb2 HB2 e2 z2
  have zs_e2 := e2.size
  replace E := E.trans (Ext.keep e2)
  replace HB1 := HB1.ext e2
  try simp only [Value.cells] at HB2
  refine l_nil ?_
  refine n_then ?_
  refine c_seq ?_
  refine wp_reg (by decide +kernel) ?_
  refine l_v (v_fieldAddr (off := 0) (ft := 22) (by kernel_rfl) rfl) ?_
  refine l_v (v_load (by kernel_rfl) rfl (by first | exact HB2.pv 0 _ rfl | exact HB1.pv 0 _ rfl | assumption)) ?_
  refine l_v (v_fieldAddr (off := 1) (ft := 3) (by kernel_rfl) rfl) ?_
  refine l_v (v_load (by kernel_rfl) rfl (by first | exact HB2.pv 1 _ rfl | exact HB1.pv 1 _ rfl | assumption)) ?_
  refine l_v (v_fieldAddr (off := 2) (ft := 3) (by kernel_rfl) rfl) ?_
  refine l_v (v_load (by kernel_rfl) rfl (by first | exact HB2.pv 2 _ rfl | exact HB1.pv 2 _ rfl | assumption)) ?_
  refine l_v (v_fieldAddr (off := 3) (ft := 3) (by kernel_rfl) rfl) ?_
  refine l_v (v_load (by kernel_rfl) rfl (by first | exact HB2.pv 3 _ rfl | exact HB1.pv 3 _ rfl | assumption)) ?_
  refine l_v (v_fieldAddr (off := 4) (ft := 2) (by kernel_rfl) rfl) ?_
  refine l_v (v_load (by kernel_rfl) rfl (by first | exact HB2.pv 4 _ rfl | exact HB1.pv 4 _ rfl | assumption)) ?_
  refine l_v (v_build (pl := [(0, 1), (1, 1), (2, 1), (3, 1), (4, 1), (5, 1), (6, 1), (7, 1), (8, 1), (9, 1), (10, 1)]) (z := .agg #[.int .i64 0, .int .i64 0, .int .i64 0, .int .i64 0, .int .i64 0, .int .i64 0, .int .i64 0, .int .i64 0, .slice none 0 0, .bool false, .slice none 0 0]) (zl := [.int .i64 0, .int .i64 0, .int .i64 0, .int .i64 0, .int .i64 0, .int .i64 0, .int .i64 0, .int .i64 0, .slice none 0 0, .bool false, .slice none 0 0]) (by kernel_rfl) (by unfold kZero; kernel_rfl) rfl rfl (cells := [_, _, _, _, _, _, _, _, _, _, _]) rfl) ?_
  refine l_to (to_alloc (z := (.agg #[.int .i64 0, .int .i64 0, .int .i64 0, .int .i64 0, .int .i64 0, .int .i64 0, .int .i64 0, .int .i64 0, .slice none 0 0, .bool false, .slice none 0 0])) (by unfold kZero; kernel_rfl) ?_)
  rintro b3 w3 zb3 HB3 e3 z3
  have zs_e3 := e3.size
  replace E := E.trans (Ext.keep e3)
  replace HB1 := HB1.ext e3
  replace HB2 := HB2.ext e3
  try simp only [Value.cells] at HB3
  refine l_to (to_storeA (n := 11) rfl rfl (show _ = (Value.agg _) from rfl) (by kernel_rfl) rfl (by first | (simp [slice_one]; done) | (simp only [List.forall_mem_cons, List.cons_append, List.nil_append]; repeat' (first | exact rfl | apply And.intro | (intro u hu; cases hu; done)))) HB3 (by first | exact of_decide_eq_true rfl | (simp; done) | decide) ?_)
  rintro w101 HX101 k101 z101
  have zs_k101 := k101.size
  replace E := E.step k101 (by intro i hi he; (try dsimp only [NoK] at hi he ⊢); first | exact he.elim | omega | exact he)
  replace HB1 := HB1.keep k101 (by intro h; (try dsimp only at h); first | omega)
  replace HB2 := HB2.keep k101 (by intro h; (try dsimp only at h); first | omega)
  replace HB3 := HX101
  clear HX101
  try simp only [List.set_cons_zero, List.set_cons_succ, setAt, List.take_zero, List.take_succ_cons, List.drop_zero, List.drop_succ_cons, List.nil_append, List.cons_append, List.append_nil, List.length_cons, List.length_nil, Nat.zero_add, Nat.reduceAdd, List.drop_nil] at HB3
  refine l_nil ?_
  refine n_then ?_
  refine c_seq ?_
  refine c_seq ?_
  refine wp_reg (by decide +kernel) ?_
  refine l_v (v_fieldAddr (off := 0) (ft := 22) (by kernel_rfl) rfl) ?_
  refine l_v (v_load (by kernel_rfl) rfl (by first | exact HB3.pv 0 _ rfl | exact HB2.pv 0 _ rfl | exact HB1.pv 0 _ rfl | assumption)) ?_
  refine l_nil ?_
  refine n_then ?_
  refine c_block ?_
  refine c_seq ?_
  refine wp_reg (by decide +kernel) ?_
  refine l_v (v_eql rfl rfl) ?_
  refine l_v (v_assign (t := .bool _) rfl) ?_
  refine l_nil ?_
  refine n_then ?_
  refine c_cond rfl rfl (fun h1 => ?_) (fun h1 => ?_)
  · skip
    refine wp_regJ (fun k => k = b3) (StJ b3 _ _ [(5, 5, some 1, (undef : Value)), (7, 6, some 3, (undef : Value))]) (by kernel_rfl) (by decide +kernel) (by decide +kernel) (fun vals done hd => StJ.start (HB3.ext (Keep.drawn _ _)) (fun a ha => hd a.1 (st_lt (n := 8) rfl a ha))) ?_
    refine rj_vJ (fun done vals w hR hcl hdk hJ hdn hd => v_fieldAddr (off := 5) (ft := 2) (by kernel_rfl) rfl) (fun done vals w hdk hJ => hJ.src (Keep.refl _) hdk rfl) ?_
    refine rj_vJ (fun done vals w hR hcl hdk hJ hdn hd => v_load (by kernel_rfl) (hd 0 rfl) (by first | exact (hJ.at0 hcl hdk ⟨_, _, rfl, rfl, by decide⟩).pv 5 _ rfl | exact (HB2.keep hR (by intro h; (try dsimp only at h); first | omega)).pv 5 _ rfl | exact (HB1.keep hR (by intro h; (try dsimp only at h); first | omega)).pv 5 _ rfl | assumption)) (fun done vals w hdk hJ => hJ.src (Keep.refl _) hdk rfl) ?_
    refine rj_vJ (fun done vals w hR hcl hdk hJ hdn hd => v_fieldAddr (off := 6) (ft := 2) (by kernel_rfl) rfl) (fun done vals w hdk hJ => hJ.src (Keep.refl _) hdk rfl) ?_
    refine rj_vJ (fun done vals w hR hcl hdk hJ hdn hd => v_load (by kernel_rfl) (hd 2 rfl) (by first | exact (hJ.at0 hcl hdk ⟨_, _, rfl, rfl, by decide⟩).pv 6 _ rfl | exact (HB2.keep hR (by intro h; (try dsimp only at h); first | omega)).pv 6 _ rfl | exact (HB1.keep hR (by intro h; (try dsimp only at h); first | omega)).pv 6 _ rfl | assumption)) (fun done vals w hdk hJ => hJ.src (Keep.refl _) hdk rfl) ?_
    refine rj_vJ (fun done vals w hR hcl hdk hJ hdn hd => v_fieldAddr (off := 5) (ft := 2) (by kernel_rfl) rfl) (fun done vals w hdk hJ => hJ.src (Keep.refl _) hdk rfl) ?_
    refine rj_d (fun done vals w hR hcl hdk hJ hdn hd => to_store (hd 4 rfl) rfl rfl (by first | exact SlV.one (hd 1 rfl) | exact SlV.one (hd 1 rfl).1 | exact OwV.one (hd 1 rfl) | exact OwV.one (hd 1 rfl).1 | (have h := hd 1 rfl; dsimp only [setS] at h; rw [h]; rfl) | exact (hd 1 rfl).1 | (obtain ⟨_, h⟩ := hd 1 rfl; rw [h]; rfl) | exact (congrArg Value.oneCell' (hd 1 rfl)).trans rfl) (by kernel_rfl) (hJ.at (n := 0) rfl hdk (fun m h => by cases h)) (by rw [conts_len]; exact of_decide_eq_true rfl) (fun w1 hB k z => ⟨k, hJ.step (n := 0) rfl hdk (fun m h => by cases h) (fun k h => by cases h; exact hdn 1 rfl) (once_st rfl) rfl hB⟩)) ?_
    refine rj_vJ (fun done vals w hR hcl hdk hJ hdn hd => v_fieldAddr (off := 6) (ft := 2) (by kernel_rfl) rfl) (fun done vals w hdk hJ => hJ.src (Keep.refl _) hdk rfl) ?_
    refine rj_d (fun done vals w hR hcl hdk hJ hdn hd => to_store (hd 6 rfl) rfl rfl (by first | exact SlV.one (hd 3 rfl) | exact SlV.one (hd 3 rfl).1 | exact OwV.one (hd 3 rfl) | exact OwV.one (hd 3 rfl).1 | (have h := hd 3 rfl; dsimp only [setS] at h; rw [h]; rfl) | exact (hd 3 rfl).1 | (obtain ⟨_, h⟩ := hd 3 rfl; rw [h]; rfl) | exact (congrArg Value.oneCell' (hd 3 rfl)).trans rfl) (by kernel_rfl) (hJ.at (n := 1) rfl hdk (fun m h => ⟨_, by cases h; rfl, hdn 5 rfl⟩)) (by rw [conts_len]; exact of_decide_eq_true rfl) (fun w1 hB k z => ⟨k, hJ.step (n := 1) rfl hdk (fun m h => ⟨_, by cases h; rfl, hdn 5 rfl⟩) (fun k h => by cases h; exact hdn 3 rfl) (once_st rfl) rfl hB⟩)) ?_
    refine rj_nil (fun vals w102 k102 J102 => ?_)
    rintro _ - rfl _ qs1 rfl _ - rfl _ qs3 rfl _ - rfl _ - - _ - rfl _ - -
    have zs_k102 := k102.size
    have HX102 := J102.fin
    simp only [conts, sv, ← qs1, ← qs3] at HX102
    replace E := E.step k102 (by intro i hi he; (try dsimp only [NoK] at hi he ⊢); first | exact he.elim | omega | exact he)
    replace HB1 := HB1.keep k102 (by intro h; (try dsimp only at h); first | omega)
    replace HB2 := HB2.keep k102 (by intro h; (try dsimp only at h); first | omega)
    replace HB3 := HX102
    clear HX102
    try simp only [List.set_cons_zero, List.set_cons_succ, setAt, List.take_zero, List.take_succ_cons, List.drop_zero, List.drop_succ_cons, List.nil_append, List.cons_append, List.append_nil, List.length_cons, List.length_nil, Nat.zero_add, Nat.reduceAdd, List.drop_nil] at HB3
    refine fin_nilJ ?_
    refine n_blk ?_
    refine n_then ?_
    refine c_seq ?_
    refine wp_reg (by decide +kernel) ?_
    refine l_v (v_loadA (by kernel_rfl) rfl (by first | exact HB3.pv | exact HB2.pv | exact HB1.pv | assumption) rfl) ?_
    refine l_to (to_storeA (n := 11) rfl rfl (show _ = (Value.agg _) from rfl) (by kernel_rfl) rfl (by first | (simp [slice_one]; done) | (simp only [List.forall_mem_cons, List.cons_append, List.nil_append]; repeat' (first | exact rfl | apply And.intro | (intro u hu; cases hu; done)))) HB2 (by first | exact of_decide_eq_true rfl | (simp; done) | decide) ?_)
    rintro w103 HX103 k103 z103
    have zs_k103 := k103.size
    replace E := E.step k103 (by intro i hi he; (try dsimp only [NoK] at hi he ⊢); first | exact he.elim | omega | exact he)
    replace HB1 := HB1.keep k103 (by intro h; (try dsimp only at h); first | omega)
    replace HB3 := HB3.keep k103 (by intro h; (try dsimp only at h); first | omega)
    replace HB2 := HX103
    clear HX103
    try simp only [List.set_cons_zero, List.set_cons_succ, setAt, List.take_zero, List.take_succ_cons, List.drop_zero, List.drop_succ_cons, List.nil_append, List.cons_append, List.append_nil, List.length_cons, List.length_nil, Nat.zero_add, Nat.reduceAdd, List.drop_nil] at HB2
    refine l_nil ?_
    refine n_then ?_
    refine c_ret ?_
    refine ret1c (n := 11) rfl (by decide) rfl (by kernel_rfl) HB2.pv rfl ?_
    exact ⟨bareV1 (dtrue h1), E⟩
  · skip
    refine c_seq ?_
    refine wp_reg (by decide +kernel) ?_
    refine l_v (v_eql rfl rfl) ?_
    refine l_v (v_assign (t := .bool _) rfl) ?_
    refine l_nil ?_
    refine n_then ?_
    refine c_cond rfl rfl (fun h2 => ?_) (fun h2 => ?_)
    · skip
      refine wp_reg (by decide +kernel) ?_
      refine l_v (v_fieldAddr (off := 9) (ft := 4) (by kernel_rfl) rfl) ?_
      refine l_v (v_load (by kernel_rfl) rfl (by first | exact HB3.pv 9 _ rfl | exact HB2.pv 9 _ rfl | exact HB1.pv 9 _ rfl | assumption)) ?_
      refine l_v (v_fieldAddr (off := 9) (ft := 4) (by kernel_rfl) rfl) ?_
      refine l_to (to_store rfl rfl (show _ = (Value.bool _) from rfl) rfl (by kernel_rfl) HB3 (by first | exact of_decide_eq_true rfl | (simp; done) | decide) ?_)
      rintro w104 HX104 k104 z104
      have zs_k104 := k104.size
      replace E := E.step k104 (by intro i hi he; (try dsimp only [NoK] at hi he ⊢); first | exact he.elim | omega | exact he)
      replace HB1 := HB1.keep k104 (by intro h; (try dsimp only at h); first | omega)
      replace HB2 := HB2.keep k104 (by intro h; (try dsimp only at h); first | omega)
      replace HB3 := HX104
      clear HX104
      try simp only [List.set_cons_zero, List.set_cons_succ, setAt, List.take_zero, List.take_succ_cons, List.drop_zero, List.drop_succ_cons, List.nil_append, List.cons_append, List.append_nil, List.length_cons, List.length_nil, Nat.zero_add, Nat.reduceAdd, List.drop_nil] at HB3
      refine l_nil ?_
      refine n_blk ?_
      refine n_then ?_
      refine c_seq ?_
      refine wp_reg (by decide +kernel) ?_
      refine l_v (v_loadA (by kernel_rfl) rfl (by first | exact HB3.pv | exact HB2.pv | exact HB1.pv | assumption) rfl) ?_
      refine l_to (to_storeA (n := 11) rfl rfl (show _ = (Value.agg _) from rfl) (by kernel_rfl) rfl (by first | (simp [slice_one]; done) | (simp only [List.forall_mem_cons, List.cons_append, List.nil_append]; repeat' (first | exact rfl | apply And.intro | (intro u hu; cases hu; done)))) HB2 (by first | exact of_decide_eq_true rfl | (simp; done) | decide) ?_)
      rintro w105 HX105 k105 z105
      have zs_k105 := k105.size
      replace E := E.step k105 (by intro i hi he; (try dsimp only [NoK] at hi he ⊢); first | exact he.elim | omega | exact he)
      replace HB1 := HB1.keep k105 (by intro h; (try dsimp only at h); first | omega)
      replace HB3 := HB3.keep k105 (by intro h; (try dsimp only at h); first | omega)
      replace HB2 := HX105
      clear HX105
      try simp only [List.set_cons_zero, List.set_cons_succ, setAt, List.take_zero, List.take_succ_cons, List.drop_zero, List.drop_succ_cons, List.nil_append, List.cons_append, List.append_nil, List.length_cons, List.length_nil, Nat.zero_add, Nat.reduceAdd, List.drop_nil] at HB2
      refine l_nil ?_
      refine n_then ?_
      refine c_ret ?_
      refine ret1c (n := 11) rfl (by decide) rfl (by kernel_rfl) HB2.pv rfl ?_
      exact ⟨bareV2 (dtrue h2), E⟩
    · skip
      refine c_seq ?_
      refine wp_reg (by decide +kernel) ?_
      refine l_v (v_eql rfl rfl) ?_
      refine l_v (v_assign (t := .bool _) rfl) ?_
      refine l_nil ?_
      refine n_then ?_
      refine c_cond rfl rfl (fun h3 => ?_) (fun h3 => ?_)
      · skip
        refine wp_regJ (fun k => k = b3) (StJ b3 _ _ [(9, 5, some 1, (undef : Value)), (11, 6, some 3, (undef : Value)), (13, 7, some 5, (undef : Value)), (15, 8, some 7, (undef : Value))]) (by kernel_rfl) (by decide +kernel) (by decide +kernel) (fun vals done hd => StJ.start (HB3.ext (Keep.drawn _ _)) (fun a ha => hd a.1 (st_lt (n := 16) rfl a ha))) ?_
        refine rj_vJ (fun done vals w hR hcl hdk hJ hdn hd => v_fieldAddr (off := 5) (ft := 2) (by kernel_rfl) rfl) (fun done vals w hdk hJ => hJ.src (Keep.refl _) hdk rfl) ?_
        refine rj_vJ (fun done vals w hR hcl hdk hJ hdn hd => v_load (by kernel_rfl) (hd 0 rfl) (by first | exact (hJ.at0 hcl hdk ⟨_, _, rfl, rfl, by decide⟩).pv 5 _ rfl | exact (HB2.keep hR (by intro h; (try dsimp only at h); first | omega)).pv 5 _ rfl | exact (HB1.keep hR (by intro h; (try dsimp only at h); first | omega)).pv 5 _ rfl | assumption)) (fun done vals w hdk hJ => hJ.src (Keep.refl _) hdk rfl) ?_
        refine rj_vJ (fun done vals w hR hcl hdk hJ hdn hd => v_fieldAddr (off := 6) (ft := 2) (by kernel_rfl) rfl) (fun done vals w hdk hJ => hJ.src (Keep.refl _) hdk rfl) ?_
        refine rj_vJ (fun done vals w hR hcl hdk hJ hdn hd => v_load (by kernel_rfl) (hd 2 rfl) (by first | exact (hJ.at0 hcl hdk ⟨_, _, rfl, rfl, by decide⟩).pv 6 _ rfl | exact (HB2.keep hR (by intro h; (try dsimp only at h); first | omega)).pv 6 _ rfl | exact (HB1.keep hR (by intro h; (try dsimp only at h); first | omega)).pv 6 _ rfl | assumption)) (fun done vals w hdk hJ => hJ.src (Keep.refl _) hdk rfl) ?_
        refine rj_vJ (fun done vals w hR hcl hdk hJ hdn hd => v_fieldAddr (off := 7) (ft := 2) (by kernel_rfl) rfl) (fun done vals w hdk hJ => hJ.src (Keep.refl _) hdk rfl) ?_
        refine rj_vJ (fun done vals w hR hcl hdk hJ hdn hd => v_load (by kernel_rfl) (hd 4 rfl) (by first | exact (hJ.at0 hcl hdk ⟨_, _, rfl, rfl, by decide⟩).pv 7 _ rfl | exact (HB2.keep hR (by intro h; (try dsimp only at h); first | omega)).pv 7 _ rfl | exact (HB1.keep hR (by intro h; (try dsimp only at h); first | omega)).pv 7 _ rfl | assumption)) (fun done vals w hdk hJ => hJ.src (Keep.refl _) hdk rfl) ?_
        refine rj_vJ (fun done vals w hR hcl hdk hJ hdn hd => v_fieldAddr (off := 8) (ft := 23) (by kernel_rfl) rfl) (fun done vals w hdk hJ => hJ.src (Keep.refl _) hdk rfl) ?_
        refine rj_vJ (fun done vals w hR hcl hdk hJ hdn hd => v_load (by kernel_rfl) (hd 6 rfl) (by first | exact (hJ.at0 hcl hdk ⟨_, _, rfl, rfl, by decide⟩).pv 8 _ rfl | exact (HB2.keep hR (by intro h; (try dsimp only at h); first | omega)).pv 8 _ rfl | exact (HB1.keep hR (by intro h; (try dsimp only at h); first | omega)).pv 8 _ rfl | assumption)) (fun done vals w hdk hJ => hJ.src (Keep.refl _) hdk rfl) ?_
        refine rj_vJ (fun done vals w hR hcl hdk hJ hdn hd => v_fieldAddr (off := 5) (ft := 2) (by kernel_rfl) rfl) (fun done vals w hdk hJ => hJ.src (Keep.refl _) hdk rfl) ?_
        refine rj_d (fun done vals w hR hcl hdk hJ hdn hd => to_store (hd 8 rfl) rfl rfl (by first | exact SlV.one (hd 1 rfl) | exact SlV.one (hd 1 rfl).1 | exact OwV.one (hd 1 rfl) | exact OwV.one (hd 1 rfl).1 | (have h := hd 1 rfl; dsimp only [setS] at h; rw [h]; rfl) | exact (hd 1 rfl).1 | (obtain ⟨_, h⟩ := hd 1 rfl; rw [h]; rfl) | exact (congrArg Value.oneCell' (hd 1 rfl)).trans rfl) (by kernel_rfl) (hJ.at (n := 0) rfl hdk (fun m h => by cases h)) (by rw [conts_len]; exact of_decide_eq_true rfl) (fun w1 hB k z => ⟨k, hJ.step (n := 0) rfl hdk (fun m h => by cases h) (fun k h => by cases h; exact hdn 1 rfl) (once_st rfl) rfl hB⟩)) ?_
        refine rj_vJ (fun done vals w hR hcl hdk hJ hdn hd => v_fieldAddr (off := 6) (ft := 2) (by kernel_rfl) rfl) (fun done vals w hdk hJ => hJ.src (Keep.refl _) hdk rfl) ?_
        refine rj_d (fun done vals w hR hcl hdk hJ hdn hd => to_store (hd 10 rfl) rfl rfl (by first | exact SlV.one (hd 3 rfl) | exact SlV.one (hd 3 rfl).1 | exact OwV.one (hd 3 rfl) | exact OwV.one (hd 3 rfl).1 | (have h := hd 3 rfl; dsimp only [setS] at h; rw [h]; rfl) | exact (hd 3 rfl).1 | (obtain ⟨_, h⟩ := hd 3 rfl; rw [h]; rfl) | exact (congrArg Value.oneCell' (hd 3 rfl)).trans rfl) (by kernel_rfl) (hJ.at (n := 1) rfl hdk (fun m h => ⟨_, by cases h; rfl, hdn 9 rfl⟩)) (by rw [conts_len]; exact of_decide_eq_true rfl) (fun w1 hB k z => ⟨k, hJ.step (n := 1) rfl hdk (fun m h => ⟨_, by cases h; rfl, hdn 9 rfl⟩) (fun k h => by cases h; exact hdn 3 rfl) (once_st rfl) rfl hB⟩)) ?_
        refine rj_vJ (fun done vals w hR hcl hdk hJ hdn hd => v_fieldAddr (off := 7) (ft := 2) (by kernel_rfl) rfl) (fun done vals w hdk hJ => hJ.src (Keep.refl _) hdk rfl) ?_
        refine rj_d (fun done vals w hR hcl hdk hJ hdn hd => to_store (hd 12 rfl) rfl rfl (by first | exact SlV.one (hd 5 rfl) | exact SlV.one (hd 5 rfl).1 | exact OwV.one (hd 5 rfl) | exact OwV.one (hd 5 rfl).1 | (have h := hd 5 rfl; dsimp only [setS] at h; rw [h]; rfl) | exact (hd 5 rfl).1 | (obtain ⟨_, h⟩ := hd 5 rfl; rw [h]; rfl) | exact (congrArg Value.oneCell' (hd 5 rfl)).trans rfl) (by kernel_rfl) (hJ.at (n := 2) rfl hdk (fun m h => ⟨_, by cases h; rfl, hdn 11 rfl⟩)) (by rw [conts_len]; exact of_decide_eq_true rfl) (fun w1 hB k z => ⟨k, hJ.step (n := 2) rfl hdk (fun m h => ⟨_, by cases h; rfl, hdn 11 rfl⟩) (fun k h => by cases h; exact hdn 5 rfl) (once_st rfl) rfl hB⟩)) ?_
        refine rj_vJ (fun done vals w hR hcl hdk hJ hdn hd => v_fieldAddr (off := 8) (ft := 23) (by kernel_rfl) rfl) (fun done vals w hdk hJ => hJ.src (Keep.refl _) hdk rfl) ?_
        refine rj_d (fun done vals w hR hcl hdk hJ hdn hd => to_store (hd 14 rfl) rfl rfl (by first | exact SlV.one (hd 7 rfl) | exact SlV.one (hd 7 rfl).1 | exact OwV.one (hd 7 rfl) | exact OwV.one (hd 7 rfl).1 | (have h := hd 7 rfl; dsimp only [setS] at h; rw [h]; rfl) | exact (hd 7 rfl).1 | (obtain ⟨_, h⟩ := hd 7 rfl; rw [h]; rfl) | exact (congrArg Value.oneCell' (hd 7 rfl)).trans rfl) (by kernel_rfl) (hJ.at (n := 3) rfl hdk (fun m h => ⟨_, by cases h; rfl, hdn 13 rfl⟩)) (by rw [conts_len]; exact of_decide_eq_true rfl) (fun w1 hB k z => ⟨k, hJ.step (n := 3) rfl hdk (fun m h => ⟨_, by cases h; rfl, hdn 13 rfl⟩) (fun k h => by cases h; exact hdn 7 rfl) (once_st rfl) rfl hB⟩)) ?_
        refine rj_nil (fun vals w106 k106 J106 => ?_)
        rintro _ - rfl _ qs1 rfl _ - rfl _ qs3 rfl _ - rfl _ qs5 rfl _ - rfl _ qs7 rfl _ - rfl _ - - _ - rfl _ - - _ - rfl _ - - _ - rfl _ - -
        have zs_k106 := k106.size
        have HX106 := J106.fin
        simp only [conts, sv, ← qs1, ← qs3, ← qs5, ← qs7] at HX106
        replace E := E.step k106 (by intro i hi he; (try dsimp only [NoK] at hi he ⊢); first | exact he.elim | omega | exact he)
        replace HB1 := HB1.keep k106 (by intro h; (try dsimp only at h); first | omega)
        replace HB2 := HB2.keep k106 (by intro h; (try dsimp only at h); first | omega)
        replace HB3 := HX106
        clear HX106
        try simp only [List.set_cons_zero, List.set_cons_succ, setAt, List.take_zero, List.take_succ_cons, List.drop_zero, List.drop_succ_cons, List.nil_append, List.cons_append, List.append_nil, List.length_cons, List.length_nil, Nat.zero_add, Nat.reduceAdd, List.drop_nil] at HB3
        refine fin_nilJ ?_
        refine n_blk ?_
        refine n_then ?_
        refine c_seq ?_
        refine wp_reg (by decide +kernel) ?_
        refine l_v (v_loadA (by kernel_rfl) rfl (by first | exact HB3.pv | exact HB2.pv | exact HB1.pv | assumption) rfl) ?_
        refine l_to (to_storeA (n := 11) rfl rfl (show _ = (Value.agg _) from rfl) (by kernel_rfl) rfl (by first | (simp [slice_one]; done) | (simp only [List.forall_mem_cons, List.cons_append, List.nil_append]; repeat' (first | exact rfl | apply And.intro | (intro u hu; cases hu; done)))) HB2 (by first | exact of_decide_eq_true rfl | (simp; done) | decide) ?_)
        rintro w107 HX107 k107 z107
        have zs_k107 := k107.size
        replace E := E.step k107 (by intro i hi he; (try dsimp only [NoK] at hi he ⊢); first | exact he.elim | omega | exact he)
        replace HB1 := HB1.keep k107 (by intro h; (try dsimp only at h); first | omega)
        replace HB3 := HB3.keep k107 (by intro h; (try dsimp only at h); first | omega)
        replace HB2 := HX107
        clear HX107
        try simp only [List.set_cons_zero, List.set_cons_succ, setAt, List.take_zero, List.take_succ_cons, List.drop_zero, List.drop_succ_cons, List.nil_append, List.cons_append, List.append_nil, List.length_cons, List.length_nil, Nat.zero_add, Nat.reduceAdd, List.drop_nil] at HB2
        refine l_nil ?_
        refine n_then ?_
        refine c_ret ?_
        refine ret1c (n := 11) rfl (by decide) rfl (by kernel_rfl) HB2.pv rfl ?_
        exact ⟨bareV3 (dtrue h3), E⟩
      · skip
        refine c_seq ?_
        refine wp_reg (by decide +kernel) ?_
        refine l_v (v_eql rfl rfl) ?_
        refine l_v (v_assign (t := .bool _) rfl) ?_
        refine l_nil ?_
        refine n_then ?_
        refine c_cond rfl rfl (fun h4 => ?_) (fun h4 => ?_)
        · skip
          refine wp_regJ (fun k => k = b3) (StJ b3 _ _ [(5, 5, some 1, (undef : Value)), (7, 9, some 3, (undef : Value))]) (by kernel_rfl) (by decide +kernel) (by decide +kernel) (fun vals done hd => StJ.start (HB3.ext (Keep.drawn _ _)) (fun a ha => hd a.1 (st_lt (n := 8) rfl a ha))) ?_
          refine rj_vJ (fun done vals w hR hcl hdk hJ hdn hd => v_fieldAddr (off := 5) (ft := 2) (by kernel_rfl) rfl) (fun done vals w hdk hJ => hJ.src (Keep.refl _) hdk rfl) ?_
          refine rj_vJ (fun done vals w hR hcl hdk hJ hdn hd => v_load (by kernel_rfl) (hd 0 rfl) (by first | exact (hJ.at0 hcl hdk ⟨_, _, rfl, rfl, by decide⟩).pv 5 _ rfl | exact (HB2.keep hR (by intro h; (try dsimp only at h); first | omega)).pv 5 _ rfl | exact (HB1.keep hR (by intro h; (try dsimp only at h); first | omega)).pv 5 _ rfl | assumption)) (fun done vals w hdk hJ => hJ.src (Keep.refl _) hdk rfl) ?_
          refine rj_vJ (fun done vals w hR hcl hdk hJ hdn hd => v_fieldAddr (off := 9) (ft := 4) (by kernel_rfl) rfl) (fun done vals w hdk hJ => hJ.src (Keep.refl _) hdk rfl) ?_
          refine rj_vJ (fun done vals w hR hcl hdk hJ hdn hd => v_load (by kernel_rfl) (hd 2 rfl) (by first | exact (hJ.at0 hcl hdk ⟨_, _, rfl, rfl, by decide⟩).pv 9 _ rfl | exact (HB2.keep hR (by intro h; (try dsimp only at h); first | omega)).pv 9 _ rfl | exact (HB1.keep hR (by intro h; (try dsimp only at h); first | omega)).pv 9 _ rfl | assumption)) (fun done vals w hdk hJ => hJ.src (Keep.refl _) hdk rfl) ?_
          refine rj_vJ (fun done vals w hR hcl hdk hJ hdn hd => v_fieldAddr (off := 5) (ft := 2) (by kernel_rfl) rfl) (fun done vals w hdk hJ => hJ.src (Keep.refl _) hdk rfl) ?_
          refine rj_d (fun done vals w hR hcl hdk hJ hdn hd => to_store (hd 4 rfl) rfl rfl (by first | exact SlV.one (hd 1 rfl) | exact SlV.one (hd 1 rfl).1 | exact OwV.one (hd 1 rfl) | exact OwV.one (hd 1 rfl).1 | (have h := hd 1 rfl; dsimp only [setS] at h; rw [h]; rfl) | exact (hd 1 rfl).1 | (obtain ⟨_, h⟩ := hd 1 rfl; rw [h]; rfl) | exact (congrArg Value.oneCell' (hd 1 rfl)).trans rfl) (by kernel_rfl) (hJ.at (n := 0) rfl hdk (fun m h => by cases h)) (by rw [conts_len]; exact of_decide_eq_true rfl) (fun w1 hB k z => ⟨k, hJ.step (n := 0) rfl hdk (fun m h => by cases h) (fun k h => by cases h; exact hdn 1 rfl) (once_st rfl) rfl hB⟩)) ?_
          refine rj_vJ (fun done vals w hR hcl hdk hJ hdn hd => v_fieldAddr (off := 9) (ft := 4) (by kernel_rfl) rfl) (fun done vals w hdk hJ => hJ.src (Keep.refl _) hdk rfl) ?_
          refine rj_d (fun done vals w hR hcl hdk hJ hdn hd => to_store (hd 6 rfl) rfl rfl (by first | exact SlV.one (hd 3 rfl) | exact SlV.one (hd 3 rfl).1 | exact OwV.one (hd 3 rfl) | exact OwV.one (hd 3 rfl).1 | (have h := hd 3 rfl; dsimp only [setS] at h; rw [h]; rfl) | exact (hd 3 rfl).1 | (obtain ⟨_, h⟩ := hd 3 rfl; rw [h]; rfl) | exact (congrArg Value.oneCell' (hd 3 rfl)).trans rfl) (by kernel_rfl) (hJ.at (n := 1) rfl hdk (fun m h => ⟨_, by cases h; rfl, hdn 5 rfl⟩)) (by rw [conts_len]; exact of_decide_eq_true rfl) (fun w1 hB k z => ⟨k, hJ.step (n := 1) rfl hdk (fun m h => ⟨_, by cases h; rfl, hdn 5 rfl⟩) (fun k h => by cases h; exact hdn 3 rfl) (once_st rfl) rfl hB⟩)) ?_
          refine rj_nil (fun vals w108 k108 J108 => ?_)
          rintro _ - rfl _ qs1 rfl _ - rfl _ qs3 rfl _ - rfl _ - - _ - rfl _ - -
          have zs_k108 := k108.size
          have HX108 := J108.fin
          simp only [conts, sv, ← qs1, ← qs3] at HX108
          replace E := E.step k108 (by intro i hi he; (try dsimp only [NoK] at hi he ⊢); first | exact he.elim | omega | exact he)
          replace HB1 := HB1.keep k108 (by intro h; (try dsimp only at h); first | omega)
          replace HB2 := HB2.keep k108 (by intro h; (try dsimp only at h); first | omega)
          replace HB3 := HX108
          clear HX108
          try simp only [List.set_cons_zero, List.set_cons_succ, setAt, List.take_zero, List.take_succ_cons, List.drop_zero, List.drop_succ_cons, List.nil_append, List.cons_append, List.append_nil, List.length_cons, List.length_nil, Nat.zero_add, Nat.reduceAdd, List.drop_nil] at HB3
          refine fin_nilJ ?_
          refine n_blk ?_
          refine n_then ?_
          refine c_seq ?_
          refine wp_reg (by decide +kernel) ?_
          refine l_v (v_loadA (by kernel_rfl) rfl (by first | exact HB3.pv | exact HB2.pv | exact HB1.pv | assumption) rfl) ?_
          refine l_to (to_storeA (n := 11) rfl rfl (show _ = (Value.agg _) from rfl) (by kernel_rfl) rfl (by first | (simp [slice_one]; done) | (simp only [List.forall_mem_cons, List.cons_append, List.nil_append]; repeat' (first | exact rfl | apply And.intro | (intro u hu; cases hu; done)))) HB2 (by first | exact of_decide_eq_true rfl | (simp; done) | decide) ?_)
          rintro w109 HX109 k109 z109
          have zs_k109 := k109.size
          replace E := E.step k109 (by intro i hi he; (try dsimp only [NoK] at hi he ⊢); first | exact he.elim | omega | exact he)
          replace HB1 := HB1.keep k109 (by intro h; (try dsimp only at h); first | omega)
          replace HB3 := HB3.keep k109 (by intro h; (try dsimp only at h); first | omega)
          replace HB2 := HX109
          clear HX109
          try simp only [List.set_cons_zero, List.set_cons_succ, setAt, List.take_zero, List.take_succ_cons, List.drop_zero, List.drop_succ_cons, List.nil_append, List.cons_append, List.append_nil, List.length_cons, List.length_nil, Nat.zero_add, Nat.reduceAdd, List.drop_nil] at HB2
          refine l_nil ?_
          refine n_then ?_
          refine c_ret ?_
          refine ret1c (n := 11) rfl (by decide) rfl (by kernel_rfl) HB2.pv rfl ?_
          exact ⟨bareV4 (dtrue h4), E⟩
        · skip
          refine c_seq ?_
          refine wp_reg (by decide +kernel) ?_
          refine l_v (v_eql rfl rfl) ?_
          refine l_v (v_assign (t := .bool _) rfl) ?_
          refine l_nil ?_
          refine n_then ?_
          refine c_cond rfl rfl (fun h5 => ?_) (fun h5 => ?_)
          · skip
            refine wp_regJ (fun k => k = b3) (StJ b3 _ _ [(9, 5, some 1, (undef : Value)), (11, 6, some 3, (undef : Value)), (13, 7, some 5, (undef : Value)), (15, 10, some 7, (undef : Value))]) (by kernel_rfl) (by decide +kernel) (by decide +kernel) (fun vals done hd => StJ.start (HB3.ext (Keep.drawn _ _)) (fun a ha => hd a.1 (st_lt (n := 16) rfl a ha))) ?_
            refine rj_vJ (fun done vals w hR hcl hdk hJ hdn hd => v_fieldAddr (off := 5) (ft := 2) (by kernel_rfl) rfl) (fun done vals w hdk hJ => hJ.src (Keep.refl _) hdk rfl) ?_
            refine rj_vJ (fun done vals w hR hcl hdk hJ hdn hd => v_load (by kernel_rfl) (hd 0 rfl) (by first | exact (hJ.at0 hcl hdk ⟨_, _, rfl, rfl, by decide⟩).pv 5 _ rfl | exact (HB2.keep hR (by intro h; (try dsimp only at h); first | omega)).pv 5 _ rfl | exact (HB1.keep hR (by intro h; (try dsimp only at h); first | omega)).pv 5 _ rfl | assumption)) (fun done vals w hdk hJ => hJ.src (Keep.refl _) hdk rfl) ?_
            refine rj_vJ (fun done vals w hR hcl hdk hJ hdn hd => v_fieldAddr (off := 6) (ft := 2) (by kernel_rfl) rfl) (fun done vals w hdk hJ => hJ.src (Keep.refl _) hdk rfl) ?_
            refine rj_vJ (fun done vals w hR hcl hdk hJ hdn hd => v_load (by kernel_rfl) (hd 2 rfl) (by first | exact (hJ.at0 hcl hdk ⟨_, _, rfl, rfl, by decide⟩).pv 6 _ rfl | exact (HB2.keep hR (by intro h; (try dsimp only at h); first | omega)).pv 6 _ rfl | exact (HB1.keep hR (by intro h; (try dsimp only at h); first | omega)).pv 6 _ rfl | assumption)) (fun done vals w hdk hJ => hJ.src (Keep.refl _) hdk rfl) ?_
            refine rj_vJ (fun done vals w hR hcl hdk hJ hdn hd => v_fieldAddr (off := 7) (ft := 2) (by kernel_rfl) rfl) (fun done vals w hdk hJ => hJ.src (Keep.refl _) hdk rfl) ?_
            refine rj_vJ (fun done vals w hR hcl hdk hJ hdn hd => v_load (by kernel_rfl) (hd 4 rfl) (by first | exact (hJ.at0 hcl hdk ⟨_, _, rfl, rfl, by decide⟩).pv 7 _ rfl | exact (HB2.keep hR (by intro h; (try dsimp only at h); first | omega)).pv 7 _ rfl | exact (HB1.keep hR (by intro h; (try dsimp only at h); first | omega)).pv 7 _ rfl | assumption)) (fun done vals w hdk hJ => hJ.src (Keep.refl _) hdk rfl) ?_
            refine rj_vJ (fun done vals w hR hcl hdk hJ hdn hd => v_fieldAddr (off := 10) (ft := 24) (by kernel_rfl) rfl) (fun done vals w hdk hJ => hJ.src (Keep.refl _) hdk rfl) ?_
            refine rj_vJ (fun done vals w hR hcl hdk hJ hdn hd => v_load (by kernel_rfl) (hd 6 rfl) (by first | exact (hJ.at0 hcl hdk ⟨_, _, rfl, rfl, by decide⟩).pv 10 _ rfl | exact (HB2.keep hR (by intro h; (try dsimp only at h); first | omega)).pv 10 _ rfl | exact (HB1.keep hR (by intro h; (try dsimp only at h); first | omega)).pv 10 _ rfl | assumption)) (fun done vals w hdk hJ => hJ.src (Keep.refl _) hdk rfl) ?_
            refine rj_vJ (fun done vals w hR hcl hdk hJ hdn hd => v_fieldAddr (off := 5) (ft := 2) (by kernel_rfl) rfl) (fun done vals w hdk hJ => hJ.src (Keep.refl _) hdk rfl) ?_
            refine rj_d (fun done vals w hR hcl hdk hJ hdn hd => to_store (hd 8 rfl) rfl rfl (by first | exact SlV.one (hd 1 rfl) | exact SlV.one (hd 1 rfl).1 | exact OwV.one (hd 1 rfl) | exact OwV.one (hd 1 rfl).1 | (have h := hd 1 rfl; dsimp only [setS] at h; rw [h]; rfl) | exact (hd 1 rfl).1 | (obtain ⟨_, h⟩ := hd 1 rfl; rw [h]; rfl) | exact (congrArg Value.oneCell' (hd 1 rfl)).trans rfl) (by kernel_rfl) (hJ.at (n := 0) rfl hdk (fun m h => by cases h)) (by rw [conts_len]; exact of_decide_eq_true rfl) (fun w1 hB k z => ⟨k, hJ.step (n := 0) rfl hdk (fun m h => by cases h) (fun k h => by cases h; exact hdn 1 rfl) (once_st rfl) rfl hB⟩)) ?_
            refine rj_vJ (fun done vals w hR hcl hdk hJ hdn hd => v_fieldAddr (off := 6) (ft := 2) (by kernel_rfl) rfl) (fun done vals w hdk hJ => hJ.src (Keep.refl _) hdk rfl) ?_
            refine rj_d (fun done vals w hR hcl hdk hJ hdn hd => to_store (hd 10 rfl) rfl rfl (by first | exact SlV.one (hd 3 rfl) | exact SlV.one (hd 3 rfl).1 | exact OwV.one (hd 3 rfl) | exact OwV.one (hd 3 rfl).1 | (have h := hd 3 rfl; dsimp only [setS] at h; rw [h]; rfl) | exact (hd 3 rfl).1 | (obtain ⟨_, h⟩ := hd 3 rfl; rw [h]; rfl) | exact (congrArg Value.oneCell' (hd 3 rfl)).trans rfl) (by kernel_rfl) (hJ.at (n := 1) rfl hdk (fun m h => ⟨_, by cases h; rfl, hdn 9 rfl⟩)) (by rw [conts_len]; exact of_decide_eq_true rfl) (fun w1 hB k z => ⟨k, hJ.step (n := 1) rfl hdk (fun m h => ⟨_, by cases h; rfl, hdn 9 rfl⟩) (fun k h => by cases h; exact hdn 3 rfl) (once_st rfl) rfl hB⟩)) ?_
            refine rj_vJ (fun done vals w hR hcl hdk hJ hdn hd => v_fieldAddr (off := 7) (ft := 2) (by kernel_rfl) rfl) (fun done vals w hdk hJ => hJ.src (Keep.refl _) hdk rfl) ?_
            refine rj_d (fun done vals w hR hcl hdk hJ hdn hd => to_store (hd 12 rfl) rfl rfl (by first | exact SlV.one (hd 5 rfl) | exact SlV.one (hd 5 rfl).1 | exact OwV.one (hd 5 rfl) | exact OwV.one (hd 5 rfl).1 | (have h := hd 5 rfl; dsimp only [setS] at h; rw [h]; rfl) | exact (hd 5 rfl).1 | (obtain ⟨_, h⟩ := hd 5 rfl; rw [h]; rfl) | exact (congrArg Value.oneCell' (hd 5 rfl)).trans rfl) (by kernel_rfl) (hJ.at (n := 2) rfl hdk (fun m h => ⟨_, by cases h; rfl, hdn 11 rfl⟩)) (by rw [conts_len]; exact of_decide_eq_true rfl) (fun w1 hB k z => ⟨k, hJ.step (n := 2) rfl hdk (fun m h => ⟨_, by cases h; rfl, hdn 11 rfl⟩) (fun k h => by cases h; exact hdn 5 rfl) (once_st rfl) rfl hB⟩)) ?_
            refine rj_vJ (fun done vals w hR hcl hdk hJ hdn hd => v_fieldAddr (off := 10) (ft := 24) (by kernel_rfl) rfl) (fun done vals w hdk hJ => hJ.src (Keep.refl _) hdk rfl) ?_
            refine rj_d (fun done vals w hR hcl hdk hJ hdn hd => to_store (hd 14 rfl) rfl rfl (by first | exact SlV.one (hd 7 rfl) | exact SlV.one (hd 7 rfl).1 | exact OwV.one (hd 7 rfl) | exact OwV.one (hd 7 rfl).1 | (have h := hd 7 rfl; dsimp only [setS] at h; rw [h]; rfl) | exact (hd 7 rfl).1 | (obtain ⟨_, h⟩ := hd 7 rfl; rw [h]; rfl) | exact (congrArg Value.oneCell' (hd 7 rfl)).trans rfl) (by kernel_rfl) (hJ.at (n := 3) rfl hdk (fun m h => ⟨_, by cases h; rfl, hdn 13 rfl⟩)) (by rw [conts_len]; exact of_decide_eq_true rfl) (fun w1 hB k z => ⟨k, hJ.step (n := 3) rfl hdk (fun m h => ⟨_, by cases h; rfl, hdn 13 rfl⟩) (fun k h => by cases h; exact hdn 7 rfl) (once_st rfl) rfl hB⟩)) ?_
            refine rj_nil (fun vals w110 k110 J110 => ?_)
            rintro _ - rfl _ qs1 rfl _ - rfl _ qs3 rfl _ - rfl _ qs5 rfl _ - rfl _ qs7 rfl _ - rfl _ - - _ - rfl _ - - _ - rfl _ - - _ - rfl _ - -
            have zs_k110 := k110.size
            have HX110 := J110.fin
            simp only [conts, sv, ← qs1, ← qs3, ← qs5, ← qs7] at HX110
            replace E := E.step k110 (by intro i hi he; (try dsimp only [NoK] at hi he ⊢); first | exact he.elim | omega | exact he)
            replace HB1 := HB1.keep k110 (by intro h; (try dsimp only at h); first | omega)
            replace HB2 := HB2.keep k110 (by intro h; (try dsimp only at h); first | omega)
            replace HB3 := HX110
            clear HX110
            try simp only [List.set_cons_zero, List.set_cons_succ, setAt, List.take_zero, List.take_succ_cons, List.drop_zero, List.drop_succ_cons, List.nil_append, List.cons_append, List.append_nil, List.length_cons, List.length_nil, Nat.zero_add, Nat.reduceAdd, List.drop_nil] at HB3
            refine fin_nilJ ?_
            refine n_blk ?_
            refine n_then ?_
            refine c_seq ?_
            refine wp_reg (by decide +kernel) ?_
            refine l_v (v_loadA (by kernel_rfl) rfl (by first | exact HB3.pv | exact HB2.pv | exact HB1.pv | assumption) rfl) ?_
            refine l_to (to_storeA (n := 11) rfl rfl (show _ = (Value.agg _) from rfl) (by kernel_rfl) rfl (by first | (simp [slice_one]; done) | (simp only [List.forall_mem_cons, List.cons_append, List.nil_append]; repeat' (first | exact rfl | apply And.intro | (intro u hu; cases hu; done)))) HB2 (by first | exact of_decide_eq_true rfl | (simp; done) | decide) ?_)
            rintro w111 HX111 k111 z111
            have zs_k111 := k111.size
            replace E := E.step k111 (by intro i hi he; (try dsimp only [NoK] at hi he ⊢); first | exact he.elim | omega | exact he)
            replace HB1 := HB1.keep k111 (by intro h; (try dsimp only at h); first | omega)
            replace HB3 := HB3.keep k111 (by intro h; (try dsimp only at h); first | omega)
            replace HB2 := HX111
            clear HX111
            try simp only [List.set_cons_zero, List.set_cons_succ, setAt, List.take_zero, List.take_succ_cons, List.drop_zero, List.drop_succ_cons, List.nil_append, List.cons_append, List.append_nil, List.length_cons, List.length_nil, Nat.zero_add, Nat.reduceAdd, List.drop_nil] at HB2
            refine l_nil ?_
            refine n_then ?_
            refine c_ret ?_
            refine ret1c (n := 11) rfl (by decide) rfl (by kernel_rfl) HB2.pv rfl ?_
            exact ⟨bareV5 (dtrue h5), E⟩
          · skip
            refine c_seq ?_
            refine c_seq ?_
            refine wp_reg (by decide +kernel) ?_
            refine l_v (v_eql rfl rfl) ?_
            refine l_v (v_assign (t := .bool _) rfl) ?_
            refine l_nil ?_
            refine n_then ?_
            refine c_cond rfl rfl (fun h6 => ?_) (fun h6 => ?_)
            · skip
              refine c_skip ?_
              refine n_then ?_
              refine c_cond rfl rfl (fun h6b => ?_) (fun h6b => ?_)
              · skip
                refine wp_reg (by decide +kernel) ?_
                refine l_v (v_fieldAddr (off := 8) (ft := 23) (by kernel_rfl) rfl) ?_
                refine l_v (v_load (by kernel_rfl) rfl (by first | exact HB3.pv 8 _ rfl | exact HB2.pv 8 _ rfl | exact HB1.pv 8 _ rfl | assumption)) ?_
                refine l_v (v_fieldAddr (off := 8) (ft := 23) (by kernel_rfl) rfl) ?_
                refine l_to (to_store rfl rfl (show _ = (Value.slice _ _ _) from rfl) rfl (by kernel_rfl) HB3 (by first | exact of_decide_eq_true rfl | (simp; done) | decide) ?_)
                rintro w112 HX112 k112 z112
                have zs_k112 := k112.size
                replace E := E.step k112 (by intro i hi he; (try dsimp only [NoK] at hi he ⊢); first | exact he.elim | omega | exact he)
                replace HB1 := HB1.keep k112 (by intro h; (try dsimp only at h); first | omega)
                replace HB2 := HB2.keep k112 (by intro h; (try dsimp only at h); first | omega)
                replace HB3 := HX112
                clear HX112
                try simp only [List.set_cons_zero, List.set_cons_succ, setAt, List.take_zero, List.take_succ_cons, List.drop_zero, List.drop_succ_cons, List.nil_append, List.cons_append, List.append_nil, List.length_cons, List.length_nil, Nat.zero_add, Nat.reduceAdd, List.drop_nil] at HB3
                refine l_nil ?_
                refine n_blk ?_
                refine n_then ?_
                refine c_seq ?_
                refine wp_reg (by decide +kernel) ?_
                refine l_v (v_loadA (by kernel_rfl) rfl (by first | exact HB3.pv | exact HB2.pv | exact HB1.pv | assumption) rfl) ?_
                refine l_to (to_storeA (n := 11) rfl rfl (show _ = (Value.agg _) from rfl) (by kernel_rfl) rfl (by first | (simp [slice_one]; done) | (simp only [List.forall_mem_cons, List.cons_append, List.nil_append]; repeat' (first | exact rfl | apply And.intro | (intro u hu; cases hu; done)))) HB2 (by first | exact of_decide_eq_true rfl | (simp; done) | decide) ?_)
                rintro w113 HX113 k113 z113
                have zs_k113 := k113.size
                replace E := E.step k113 (by intro i hi he; (try dsimp only [NoK] at hi he ⊢); first | exact he.elim | omega | exact he)
                replace HB1 := HB1.keep k113 (by intro h; (try dsimp only at h); first | omega)
                replace HB3 := HB3.keep k113 (by intro h; (try dsimp only at h); first | omega)
                replace HB2 := HX113
                clear HX113
                try simp only [List.set_cons_zero, List.set_cons_succ, setAt, List.take_zero, List.take_succ_cons, List.drop_zero, List.drop_succ_cons, List.nil_append, List.cons_append, List.append_nil, List.length_cons, List.length_nil, Nat.zero_add, Nat.reduceAdd, List.drop_nil] at HB2
                refine l_nil ?_
                refine n_then ?_
                refine c_ret ?_
                refine ret1c (n := 11) rfl (by decide) rfl (by kernel_rfl) HB2.pv rfl ?_
                exact ⟨bareV6 (dtrue h6), E⟩
              · skip
                simp [h6] at h6b
            · skip
              refine wp_reg (by decide +kernel) ?_
              refine l_v (v_eql rfl rfl) ?_
              refine l_v (v_assign (t := .bool _) rfl) ?_
              refine l_nil ?_
              refine n_then ?_
              refine c_cond rfl rfl (fun h7 => ?_) (fun h7 => ?_)
              · skip
                refine wp_reg (by decide +kernel) ?_
                refine l_v (v_fieldAddr (off := 8) (ft := 23) (by kernel_rfl) rfl) ?_
                refine l_v (v_load (by kernel_rfl) rfl (by first | exact HB3.pv 8 _ rfl | exact HB2.pv 8 _ rfl | exact HB1.pv 8 _ rfl | assumption)) ?_
                refine l_v (v_fieldAddr (off := 8) (ft := 23) (by kernel_rfl) rfl) ?_
                refine l_to (to_store rfl rfl (show _ = (Value.slice _ _ _) from rfl) rfl (by kernel_rfl) HB3 (by first | exact of_decide_eq_true rfl | (simp; done) | decide) ?_)
                rintro w114 HX114 k114 z114
                have zs_k114 := k114.size
                replace E := E.step k114 (by intro i hi he; (try dsimp only [NoK] at hi he ⊢); first | exact he.elim | omega | exact he)
                replace HB1 := HB1.keep k114 (by intro h; (try dsimp only at h); first | omega)
                replace HB2 := HB2.keep k114 (by intro h; (try dsimp only at h); first | omega)
                replace HB3 := HX114
                clear HX114
                try simp only [List.set_cons_zero, List.set_cons_succ, setAt, List.take_zero, List.take_succ_cons, List.drop_zero, List.drop_succ_cons, List.nil_append, List.cons_append, List.append_nil, List.length_cons, List.length_nil, Nat.zero_add, Nat.reduceAdd, List.drop_nil] at HB3
                refine l_nil ?_
                refine n_blk ?_
                refine n_then ?_
                refine c_seq ?_
                refine wp_reg (by decide +kernel) ?_
                refine l_v (v_loadA (by kernel_rfl) rfl (by first | exact HB3.pv | exact HB2.pv | exact HB1.pv | assumption) rfl) ?_
                refine l_to (to_storeA (n := 11) rfl rfl (show _ = (Value.agg _) from rfl) (by kernel_rfl) rfl (by first | (simp [slice_one]; done) | (simp only [List.forall_mem_cons, List.cons_append, List.nil_append]; repeat' (first | exact rfl | apply And.intro | (intro u hu; cases hu; done)))) HB2 (by first | exact of_decide_eq_true rfl | (simp; done) | decide) ?_)
                rintro w115 HX115 k115 z115
                have zs_k115 := k115.size
                replace E := E.step k115 (by intro i hi he; (try dsimp only [NoK] at hi he ⊢); first | exact he.elim | omega | exact he)
                replace HB1 := HB1.keep k115 (by intro h; (try dsimp only at h); first | omega)
                replace HB3 := HB3.keep k115 (by intro h; (try dsimp only at h); first | omega)
                replace HB2 := HX115
                clear HX115
                try simp only [List.set_cons_zero, List.set_cons_succ, setAt, List.take_zero, List.take_succ_cons, List.drop_zero, List.drop_succ_cons, List.nil_append, List.cons_append, List.append_nil, List.length_cons, List.length_nil, Nat.zero_add, Nat.reduceAdd, List.drop_nil] at HB2
                refine l_nil ?_
                refine n_then ?_
                refine c_ret ?_
                refine ret1c (n := 11) rfl (by decide) rfl (by kernel_rfl) HB2.pv rfl ?_
                exact ⟨bareV7 (dtrue h7), E⟩
              · skip
                refine c_skip ?_
                refine n_blk ?_
                refine n_then ?_
                refine c_seq ?_
                refine wp_reg (by decide +kernel) ?_
                refine l_v (v_loadA (by kernel_rfl) rfl (by first | exact HB3.pv | exact HB2.pv | exact HB1.pv | assumption) rfl) ?_
                refine l_to (to_storeA (n := 11) rfl rfl (show _ = (Value.agg _) from rfl) (by kernel_rfl) rfl (by first | (simp [slice_one]; done) | (simp only [List.forall_mem_cons, List.cons_append, List.nil_append]; repeat' (first | exact rfl | apply And.intro | (intro u hu; cases hu; done)))) HB2 (by first | exact of_decide_eq_true rfl | (simp; done) | decide) ?_)
                rintro w116 HX116 k116 z116
                have zs_k116 := k116.size
                replace E := E.step k116 (by intro i hi he; (try dsimp only [NoK] at hi he ⊢); first | exact he.elim | omega | exact he)
                replace HB1 := HB1.keep k116 (by intro h; (try dsimp only at h); first | omega)
                replace HB3 := HB3.keep k116 (by intro h; (try dsimp only at h); first | omega)
                replace HB2 := HX116
                clear HX116
                try simp only [List.set_cons_zero, List.set_cons_succ, setAt, List.take_zero, List.take_succ_cons, List.drop_zero, List.drop_succ_cons, List.nil_append, List.cons_append, List.append_nil, List.length_cons, List.length_nil, Nat.zero_add, Nat.reduceAdd, List.drop_nil] at HB2
                refine l_nil ?_
                refine n_then ?_
                refine c_ret ?_
                refine ret1c (n := 11) rfl (by decide) rfl (by kernel_rfl) HB2.pv rfl ?_
                exact ⟨bareV0 (dfalse h1) (dfalse h2) (dfalse h3) (dfalse h4) (dfalse h5) (dfalse h6) (dfalse h7), E⟩
theorem refMay_c {w : World} {F : Nat → Prop} {v : Value} {m : Ms} (HG1 : AgV tMs w F v m) : CallsR Try.prog 16 #[v] w (fun o w' => o = .bool (mayN m) ∧ Ext w w') := by
  obtain ⟨a1, c1, a2, c2, rfl, HSe, HSs, hw⟩ := HG1.ms
  have hmx := HSe.len_max
  refine enter 136 Try.func16 rfl rfl (by simp) ?_
  refine c_seq ?_
  have E := Keep.refl (K := NoK) w
  replace HSe := HSe.all
  replace HSs := HSs.all
  refine wp_reg (by decide +kernel) ?_
  refine l_to (to_box (show _ = (Value.agg _) from rfl) ?_)
  rintro b1 w1 zb1 HB1 e1 z1
  have zs_e1 := e1.size
  replace E := E.trans (Ext.keep e1)
  replace HSe := HSe.ext e1
  replace HSs := HSs.ext e1
  try simp only [Value.cells] at HB1
  refine l_v (v_assign rfl) ?_
  refine l_nil ?_
  refine n_then ?_
  refine c_seq ?_
  refine c_seq ?_
  refine wp_reg (by decide +kernel) ?_
  refine l_v (v_fieldAddr (off := 0) (ft := 22) (by kernel_rfl) rfl) ?_
  refine l_v (v_load (by kernel_rfl) rfl (by first | exact HB1.pv 0 _ rfl | assumption)) ?_
  refine l_v (v_lss rfl rfl) ?_
  refine l_v (v_move (t := .bool _) rfl) ?_
  refine l_g1 rfl rfl (fun hG => v_fieldAddr (off := 0) (ft := 22) (by kernel_rfl) rfl) ?_
  refine l_g1 rfl rfl (fun hG => v_load (by kernel_rfl) (gd hG rfl) (by first | exact HB1.pv 0 _ rfl | assumption)) ?_
  refine l_g1 rfl rfl (fun hG => v_gtr (gd hG rfl) rfl) ?_
  refine l_v (v_or rfl rfl) ?_
  refine l_v (v_move (t := .bool _) rfl) ?_
  refine l_g1 rfl rfl (fun hG => v_fieldAddr (off := 1) (ft := 3) (by kernel_rfl) rfl) ?_
  refine l_g1 rfl rfl (fun hG => v_load (by kernel_rfl) (gd hG rfl) (by first | exact HB1.pv 1 _ rfl | assumption)) ?_
  refine l_g1 rfl rfl (fun hG => v_lss (gd hG rfl) rfl) ?_
  refine l_v (v_or rfl rfl) ?_
  refine l_v (v_move (t := .bool _) rfl) ?_
  refine l_g1 rfl rfl (fun hG => v_fieldAddr (off := 1) (ft := 3) (by kernel_rfl) rfl) ?_
  refine l_g1 rfl rfl (fun hG => v_load (by kernel_rfl) (gd hG rfl) (by first | exact HB1.pv 1 _ rfl | assumption)) ?_
  refine l_g1 rfl rfl (fun hG => v_geq (gd hG rfl) rfl) ?_
  refine l_v (v_or rfl rfl) ?_
  refine l_v (v_move (t := .bool _) rfl) ?_
  refine l_g1 rfl rfl (fun hG => v_fieldAddr (off := 2) (ft := 3) (by kernel_rfl) rfl) ?_
  refine l_g1 rfl rfl (fun hG => v_load (by kernel_rfl) (gd hG rfl) (by first | exact HB1.pv 2 _ rfl | assumption)) ?_
  refine l_g1 rfl rfl (fun hG => v_lss (gd hG rfl) rfl) ?_
  refine l_v (v_or rfl rfl) ?_
  refine l_v (v_move (t := .bool _) rfl) ?_
  refine l_g1 rfl rfl (fun hG => v_fieldAddr (off := 2) (ft := 3) (by kernel_rfl) rfl) ?_
  refine l_g1 rfl rfl (fun hG => v_load (by kernel_rfl) (gd hG rfl) (by first | exact HB1.pv 2 _ rfl | assumption)) ?_
  refine l_g1 rfl rfl (fun hG => v_geq (gd hG rfl) rfl) ?_
  refine l_v (v_or rfl rfl) ?_
  refine l_v (v_move (t := .bool _) rfl) ?_
  refine l_g1 rfl rfl (fun hG => v_fieldAddr (off := 1) (ft := 3) (by kernel_rfl) rfl) ?_
  refine l_g1 rfl rfl (fun hG => v_load (by kernel_rfl) (gd hG rfl) (by first | exact HB1.pv 1 _ rfl | assumption)) ?_
  refine l_g1 rfl rfl (fun hG => v_fieldAddr (off := 2) (ft := 3) (by kernel_rfl) rfl) ?_
  refine l_g1 rfl rfl (fun hG => v_load (by kernel_rfl) (gd hG rfl) (by first | exact HB1.pv 2 _ rfl | assumption)) ?_
  refine l_g1 rfl rfl (fun hG => v_eql (gd hG rfl) (gd hG rfl)) ?_
  refine l_v (v_or rfl rfl) ?_
  refine l_v (v_move (t := .bool _) rfl) ?_
  refine l_g1 rfl rfl (fun hG => v_fieldAddr (off := 3) (ft := 3) (by kernel_rfl) rfl) ?_
  refine l_g1 rfl rfl (fun hG => v_load (by kernel_rfl) (gd hG rfl) (by first | exact HB1.pv 3 _ rfl | assumption)) ?_
  refine l_g1 rfl rfl (fun hG => v_lss (gd hG rfl) rfl) ?_
  refine l_v (v_or rfl rfl) ?_
  refine l_v (v_move (t := .bool _) rfl) ?_
  refine l_g1 rfl rfl (fun hG => v_fieldAddr (off := 3) (ft := 3) (by kernel_rfl) rfl) ?_
  refine l_g1 rfl rfl (fun hG => v_load (by kernel_rfl) (gd hG rfl) (by first | exact HB1.pv 3 _ rfl | assumption)) ?_
  refine l_g1 rfl rfl (fun hG => v_geq (gd hG rfl) rfl) ?_
  refine l_v (v_or rfl rfl) ?_
  refine l_v (v_move (t := .bool _) rfl) ?_
  refine l_g1 rfl rfl (fun hG => v_fieldAddr (off := 4) (ft := 2) (by kernel_rfl) rfl) ?_
  refine l_g1 rfl rfl (fun hG => v_load (by kernel_rfl) (gd hG rfl) (by first | exact HB1.pv 4 _ rfl | assumption)) ?_
  refine l_g1 rfl rfl (fun hG => v_lss (gd hG rfl) rfl) ?_
  refine l_v (v_or rfl rfl) ?_
  refine l_v (v_move (t := .bool _) rfl) ?_
  refine l_g1 rfl rfl (fun hG => v_fieldAddr (off := 4) (ft := 2) (by kernel_rfl) rfl) ?_
  refine l_g1 rfl rfl (fun hG => v_load (by kernel_rfl) (gd hG rfl) (by first | exact HB1.pv 4 _ rfl | assumption)) ?_
  refine l_g1 rfl rfl (fun hG => v_gtr (gd hG rfl) rfl) ?_
  refine l_v (v_or rfl rfl) ?_
  refine l_nil ?_
  refine n_then ?_
  refine c_cond rfl rfl (fun hA => ?_) (fun hA => ?_)
  · skip
    refine c_seq ?_
    refine wp_reg (by decide +kernel) ?_
    refine l_v (v_assign rfl) ?_
    refine l_nil ?_
    refine n_then ?_
    refine c_ret ?_
    refine r_then ?_
    refine ret1v rfl (by decide) (show _ = (Value.bool _) from rfl) ?_
    refine ⟨?_, E⟩
    rw [mayN_f fun h => by rw [mayA_iff.2 (mayN_iff.1 h).1] at hA; cases hA]
  · skip
    refine c_skip ?_
    refine n_then ?_
    refine c_seq ?_
    refine c_seq ?_
    refine wp_regd (NoK) (by kernel_rfl) (by decide +kernel) (by decide +kernel) ?_
    refine rt_v (fun vals w hR hd => v_fieldAddr (off := 5) (ft := 2) (by kernel_rfl) rfl) ?_
    refine rt_v (fun vals w hR hd => v_load (by kernel_rfl) (hd 0 rfl) (by first | exact (HB1.ext hR).pv 5 _ rfl | assumption)) ?_
    refine rt_vf (fun vals w hR hd => to_f1 (by kernel_rfl) (hd 1 rfl) (number_c)) ?_
    refine rt_v (fun vals w hR hd => v_not (hd 2 rfl)) ?_
    refine rt_v (fun vals w hR hd => v_move (t := .bool _) (hd 3 rfl)) ?_
    refine rt_g1 rfl (fun vals w hd => hd 4 rfl) (fun vals w hR hd hG => v_fieldAddr (off := 6) (ft := 2) (by kernel_rfl) rfl) ?_
    refine rt_g1 rfl (fun vals w hd => hd 4 rfl) (fun vals w hR hd hG => v_load (by kernel_rfl) (gd hG (hd 5 rfl)) (by first | exact (HB1.ext hR).pv 6 _ rfl | assumption)) ?_
    refine rt_g1f rfl (fun vals w hd => hd 4 rfl) (fun vals w hR hd hG => to_f1 (by kernel_rfl) (gd hG (hd 6 rfl)) (number_c)) ?_
    refine rt_g1 rfl (fun vals w hd => hd 4 rfl) (fun vals w hR hd hG => v_not (gd hG (hd 7 rfl))) ?_
    refine rt_v (fun vals w hR hd => v_or (hd 4 rfl) (hd 8 rfl)) ?_
    refine rt_v (fun vals w hR hd => v_move (t := .bool _) (hd 9 rfl)) ?_
    refine rt_g1 rfl (fun vals w hd => hd 10 rfl) (fun vals w hR hd hG => v_fieldAddr (off := 7) (ft := 2) (by kernel_rfl) rfl) ?_
    refine rt_g1 rfl (fun vals w hd => hd 10 rfl) (fun vals w hR hd hG => v_load (by kernel_rfl) (gd hG (hd 11 rfl)) (by first | exact (HB1.ext hR).pv 7 _ rfl | assumption)) ?_
    refine rt_g1f rfl (fun vals w hd => hd 10 rfl) (fun vals w hR hd hG => to_f1 (by kernel_rfl) (gd hG (hd 12 rfl)) (number_c)) ?_
    refine rt_g1 rfl (fun vals w hd => hd 10 rfl) (fun vals w hR hd hG => v_not (gd hG (hd 13 rfl))) ?_
    refine rt_v (fun vals w hR hd => v_or (hd 10 rfl) (hd 14 rfl)) ?_
    refine rt_v (fun vals w hR hd => v_move (t := .bool _) (hd 15 rfl)) ?_
    refine rt_g1 rfl (fun vals w hd => hd 16 rfl) (fun vals w hR hd hG => v_fieldAddr (off := 10) (ft := 24) (by kernel_rfl) rfl) ?_
    refine rt_g1 rfl (fun vals w hd => hd 16 rfl) (fun vals w hR hd hG => v_load (by kernel_rfl) (gd hG (hd 17 rfl)) (by first | exact (HB1.ext hR).pv 10 _ rfl | assumption)) ?_
    refine rt_g1 rfl (fun vals w hd => hd 16 rfl) (fun vals w hR hd hG => v_len (et := 5) (by kernel_rfl) (gd hG (hd 18 rfl))) ?_
    refine rt_g1 rfl (fun vals w hd => hd 16 rfl) (fun vals w hR hd hG => v_gtr (gd hG (hd 19 rfl)) rfl) ?_
    refine rt_v (fun vals w hR hd => v_or (hd 16 rfl) (hd 20 rfl)) ?_
    refine rt_v (fun vals w hR hd => v_move (t := .bool _) (hd 21 rfl)) ?_
    refine rt_g1 rfl (fun vals w hd => hd 22 rfl) (fun vals w hR hd hG => v_fieldAddr (off := 8) (ft := 23) (by kernel_rfl) rfl) ?_
    refine rt_g1 rfl (fun vals w hd => hd 22 rfl) (fun vals w hR hd hG => v_load (by kernel_rfl) (gd hG (hd 23 rfl)) (by first | exact (HB1.ext hR).pv 8 _ rfl | assumption)) ?_
    refine rt_g1 rfl (fun vals w hd => hd 22 rfl) (fun vals w hR hd hG => v_len (et := 73) (by kernel_rfl) (gd hG (hd 24 rfl))) ?_
    refine rt_g1 rfl (fun vals w hd => hd 22 rfl) (fun vals w hR hd hG => v_gtr (gd hG (hd 25 rfl)) rfl) ?_
    refine rt_v (fun vals w hR hd => v_or (hd 22 rfl) (hd 26 rfl)) ?_
    refine rt_v (fun vals w hR hd => v_move (t := .bool _) (hd 27 rfl)) ?_
    refine rt_g1 rfl (fun vals w hd => hd 28 rfl) (fun vals w hR hd hG => v_loadA (by kernel_rfl) rfl (by first | exact (HB1.ext hR).pv | assumption) rfl) ?_
    refine rt_g1f rfl (fun vals w hd => hd 28 rfl) (fun vals w hR hd hG => to_f1 (by kernel_rfl) (gd hG (hd 29 rfl)) (bare_c)) ?_
    refine rt_g1 rfl (fun vals w hd => hd 28 rfl) (fun vals w hR hd hG => v_loadA (by kernel_rfl) rfl (by first | exact (HB1.ext hR).pv | assumption) rfl) ?_
    refine rt_g1f rfl (fun vals w hd => hd 28 rfl) (fun vals w hR hd hG => to_f2 (by kernel_rfl) (gd hG (hd 30 rfl)) (gd hG (hd 31 rfl)) (refSame_c (AgV.bare (HSe.ext hR) (HSs.ext hR) hw) (AgV.mkMs (HSe.ext hR) (HSs.ext hR) hw))) ?_
    refine rt_g1 rfl (fun vals w hd => hd 28 rfl) (fun vals w hR hd hG => v_not (gd hG (hd 32 rfl))) ?_
    refine rt_v (fun vals w hR hd => v_or (hd 28 rfl) (hd 33 rfl)) ?_
    refine rt_nil (fun w101 e101 => ?_)
    rintro _ rfl _ rfl _ rfl _ rfl _ rfl _ rfl _ rfl _ rfl _ rfl _ rfl _ rfl _ rfl _ rfl _ rfl _ rfl _ rfl _ rfl _ rfl _ rfl _ rfl _ rfl _ rfl _ rfl _ rfl _ rfl _ rfl _ rfl _ rfl _ rfl _ rfl _ rfl _ rfl _ rfl _ rfl _ rfl
    have zs_e101 := e101.size
    replace E := E.trans (Ext.keep e101)
    replace HSe := HSe.ext e101
    replace HSs := HSs.ext e101
    replace HB1 := HB1.ext e101
    refine fin_nil ?_
    refine n_then ?_
    refine c_cond rfl rfl (fun hB => ?_) (fun hB => ?_)
    · skip
      refine c_seq ?_
      refine wp_reg (by decide +kernel) ?_
      refine l_v (v_assign rfl) ?_
      refine l_nil ?_
      refine n_then ?_
      refine c_ret ?_
      refine r_then ?_
      refine ret1v rfl (by decide) (show _ = (Value.bool _) from rfl) ?_
      refine ⟨?_, E⟩
      rw [mayN_f fun h => by rw [mayB_iff.2 (mayN_iff.1 h).2.1] at hB; cases hB]
    · skip
      refine c_skip ?_
      refine n_then ?_
      refine c_seq ?_
      refine c_seq ?_
      refine wp_reg (by decide +kernel) ?_
      refine l_v (v_assign rfl) ?_
      refine l_nil ?_
      refine n_then ?_
      refine c_block ?_
      refine c_loop (τ := Nat) [2, 3, 94, 95, 96, 97, 98, 99, 100, 101, 102, 103, 104, 105, 106, 107, 108, 109, 110, 111, 112, 113, 114, 115, 116, 117, 118, 119, 120, 121, 122, 123, 124, 125, 126] (fun i => [(3, .int .i64 i)]) (fun i W => Ext w W ∧ Keep (NoK) w101 W ∧ i ≤ m.ents.length ∧ (m.ents.take i).any badE = false) (fun i => m.ents.length - i) 0 (by exact ⟨rfl, trivial⟩) (by exact ⟨E, Keep.refl _, Nat.zero_le _, rfl⟩) ?_
      rintro i w102 j ⟨E, EL1, h1, h2⟩
      have zs_EL1 := EL1.size
      replace HSe := HSe.ext EL1
      replace HSs := HSs.ext EL1
      replace HB1 := HB1.ext EL1
      refine c_seq ?_
      refine c_seq ?_
      refine wp_reg (by decide +kernel) ?_
      refine l_v (v_move (t := .int _ _) rfl) ?_
      refine l_v (v_fieldAddr (off := 8) (ft := 23) (by kernel_rfl) rfl) ?_
      refine l_v (v_load (by kernel_rfl) rfl (by first | exact HB1.pv 8 _ rfl | assumption)) ?_
      refine l_v (v_len (et := 73) (by kernel_rfl) rfl) ?_
      refine l_v (v_lss rfl rfl) ?_
      refine l_nil ?_
      refine n_then ?_
      refine c_cond rfl rfl (fun hlt => ?_) (fun hlt => ?_)
      · skip
        have hlt := dtrue hlt
        obtain ⟨r, hx, hdr⟩ := getE (l := m.ents) (i := i) (by omega)
        obtain ⟨q1, cs1, hqq1, hq1, _, HP1, hr1⟩ := HSe.el hx
        subst hqq1
        obtain ⟨b1, d1, rfl, HS11, _⟩ := tEn_cells hr1
        refine c_skip ?_
        refine n_then ?_
        refine c_seq ?_
        refine c_block ?_
        refine c_seq ?_
        refine wp_reg (by decide +kernel) ?_
        refine l_v (v_fieldAddr (off := 8) (ft := 23) (by kernel_rfl) rfl) ?_
        refine l_v (v_load (by kernel_rfl) rfl (by first | exact HP1 8 _ rfl | exact HB1.pv 8 _ rfl | assumption)) ?_
        refine l_v (v_move (t := .int _ _) rfl) ?_
        refine l_v (v_indexAddr (et := 73) (sz := 2) (k := i) (by kernel_rfl) (by kernel_rfl) rfl rfl (by first | rfl | omega) (by omega)) ?_
        refine l_v (v_fieldAddr (off := 0) (ft := 2) (by kernel_rfl) rfl) ?_
        refine l_v (v_load (by kernel_rfl) rfl (by first | exact HP1 0 _ rfl | exact HB1.pv 0 _ rfl | assumption)) ?_
        refine l_v (v_lss rfl rfl) ?_
        refine l_v (v_move (t := .bool _) rfl) ?_
        refine l_g1 rfl rfl (fun hG => v_fieldAddr (off := 8) (ft := 23) (by kernel_rfl) rfl) ?_
        refine l_g1 rfl rfl (fun hG => v_load (by kernel_rfl) (gd hG rfl) (by first | exact HP1 8 _ rfl | exact HB1.pv 8 _ rfl | assumption)) ?_
        refine l_g1 rfl rfl (fun hG => v_move (t := .int _ _) rfl) ?_
        refine l_g1 rfl rfl (fun hG => v_indexAddr (et := 73) (sz := 2) (k := i) (by kernel_rfl) (by kernel_rfl) (gd hG rfl) (gd hG rfl) (by first | rfl | omega) (by omega)) ?_
        refine l_g1 rfl rfl (fun hG => v_fieldAddr (off := 0) (ft := 2) (by kernel_rfl) (gd hG rfl)) ?_
        refine l_g1 rfl rfl (fun hG => v_load (by kernel_rfl) (gd hG rfl) (by first | exact HP1 0 _ rfl | exact HB1.pv 0 _ rfl | assumption)) ?_
        refine l_g1 rfl rfl (fun hG => v_gtr (gd hG rfl) rfl) ?_
        refine l_v (v_or rfl rfl) ?_
        refine l_v (v_move (t := .bool _) rfl) ?_
        refine l_g1 rfl rfl (fun hG => v_fieldAddr (off := 8) (ft := 23) (by kernel_rfl) rfl) ?_
        refine l_g1 rfl rfl (fun hG => v_load (by kernel_rfl) (gd hG rfl) (by first | exact HP1 8 _ rfl | exact HB1.pv 8 _ rfl | assumption)) ?_
        refine l_g1 rfl rfl (fun hG => v_move (t := .int _ _) rfl) ?_
        refine l_g1 rfl rfl (fun hG => v_indexAddr (et := 73) (sz := 2) (k := i) (by kernel_rfl) (by kernel_rfl) (gd hG rfl) (gd hG rfl) (by first | rfl | omega) (by omega)) ?_
        refine l_g1 rfl rfl (fun hG => v_fieldAddr (off := 1) (ft := 24) (by kernel_rfl) (gd hG rfl)) ?_
        refine l_g1 rfl rfl (fun hG => v_load (by kernel_rfl) (gd hG rfl) (by first | exact HP1 1 _ rfl | exact HB1.pv 1 _ rfl | assumption)) ?_
        refine l_g1 rfl rfl (fun hG => v_len (et := 5) (by kernel_rfl) (gd hG rfl)) ?_
        refine l_g1 rfl rfl (fun hG => v_gtr (gd hG rfl) rfl) ?_
        refine l_v (v_or rfl rfl) ?_
        refine l_nil ?_
        refine n_then ?_
        refine c_cond rfl rfl (fun h38 => ?_) (fun h38 => ?_)
        · skip
          refine c_seq ?_
          refine wp_reg (by decide +kernel) ?_
          refine l_v (v_assign rfl) ?_
          refine l_nil ?_
          refine n_then ?_
          refine c_ret ?_
          refine r_blk ?_
          refine r_then ?_
          refine r_then ?_
          refine r_blk ?_
          refine r_then ?_
          refine ret1v rfl (by decide) (show _ = (Value.bool _) from rfl) ?_
          refine ⟨?_, E⟩
          rw [badE_eq] at h38
          rw [mayN_f fun h => by have h5 := (mayN_iff.1 h).2.2.1; rw [List.any_eq_false] at h5; exact h5 r (List.mem_of_getElem? hx) h38]
        · skip
          refine c_skip ?_
          refine n_blk ?_
          refine n_then ?_
          refine wp_reg (by decide +kernel) ?_
          refine l_v (v_move (t := .int _ _) rfl) ?_
          refine l_v (v_add rfl rfl (by first | exact wr_i64 (by omega) (by omega) | rfl)) ?_
          refine l_v (v_assign (t := .int _ _) rfl) ?_
          refine l_nil ?_
          refine n_then ?_
          refine ⟨i + 1, _, rfl, by (repeat (first | exact Off.of_over _ _ _ | refine Off.upd ?_ (by decide) _ | refine Off.overs ?_ (by decide) _)), ⟨by first | rfl | exact congrArg (Value.int _) (by omega) | (simp; done), trivial⟩, ⟨E, EL1, ?_⟩, ?_⟩
          · skip
            refine ⟨by omega, ?_⟩
            rw [badE_eq] at h38
            rw [List.take_add_one, hx, List.any_append, h2]
            simpa using h38
          · (dsimp only; omega)
      · skip
        refine c_exit ?_
        refine x_then ?_
        refine x_then ?_
        refine x_hit ?_
        refine n_then ?_
        refine c_seq ?_
        refine wp_reg (by decide +kernel) ?_
        refine l_v (v_fieldAddr (off := 0) (ft := 22) (by kernel_rfl) rfl) ?_
        refine l_v (v_load (by kernel_rfl) rfl (by first | exact HB1.pv 0 _ rfl | assumption)) ?_
        refine l_v (v_lss rfl rfl) ?_
        refine l_v (v_move (t := .bool _) rfl) ?_
        refine l_g1 rfl rfl (fun hG => v_fieldAddr (off := 8) (ft := 23) (by kernel_rfl) rfl) ?_
        refine l_g1 rfl rfl (fun hG => v_load (by kernel_rfl) (gd hG rfl) (by first | exact HB1.pv 8 _ rfl | assumption)) ?_
        refine l_g1 rfl rfl (fun hG => v_len (et := 73) (by kernel_rfl) (gd hG rfl)) ?_
        refine l_g1 rfl rfl (fun hG => v_eql (gd hG rfl) rfl) ?_
        refine l_v (v_or rfl rfl) ?_
        refine l_v (v_assign (t := .bool _) rfl) ?_
        refine l_nil ?_
        refine n_then ?_
        refine c_ret ?_
        refine ret1v rfl (by decide) (show _ = (Value.bool _) from rfl) ?_
        refine ⟨?_, E⟩
        have h := dfalse hlt
        rw [mayN_last (mayA_iff.1 hA) (mayB_iff.1 hB) (by rw [← List.take_of_length_le (l := m.ents) (i := i) (by omega)]; exact h2)]
end Go.Proofs.Ytaidpdjlchnonaa

namespace Go.Proofs.Ytaidpdjlchnonaa
open Go.Vc
set_option linter.unusedVariables false
set_option linter.unusedSimpArgs false
set_option maxRecDepth 100000

theorem CloneE_c {w : World} {F : Nat → Prop} {v : Value} {l : List EnV} (HS1 : SlV tEn w F v l) (hn : l.length ≤ 1000000) : CallsR Try.prog 96 #[v] w (fun o w' => OwV tEn 73 w' w.heap.size F o l ∧ Ext w w') := by
  replace HS1 := HS1.mono (F' := fun b => F b ∧ b < w.heap.size) fun b h1 h2 => ⟨h2, h1⟩
  obtain ⟨a1, c1, rfl⟩ := HS1.shape
  refine enter 8 Try.func96 rfl rfl (by simp) ?_
  refine c_seq ?_
  have E := Keep.refl (K := NoK) w
  refine wp_reg (by decide +kernel) ?_
  refine l_v (v_assign rfl) ?_
  refine l_nil ?_
  refine n_then ?_
  refine c_seq ?_
  refine c_seq ?_
  refine wp_reg (by decide +kernel) ?_
  refine l_v (v_move (t := .slice _ _ _) rfl) ?_
  refine l_v (v_sleneq (et := 73) (by kernel_rfl) rfl rfl) ?_
  refine l_nil ?_
  refine n_then ?_
  refine c_cond rfl rfl (fun hc => ?_) (fun hc => ?_)
  · skip
    refine c_seq ?_
    refine wp_reg (by decide +kernel) ?_
    refine l_v (v_assign rfl) ?_
    refine l_nil ?_
    refine n_then ?_
    refine c_ret ?_
    refine r_then ?_
    refine ret1v rfl (by decide) (show _ = (Value.slice _ _ _) from rfl) ?_
    have hn : a1 = none := by simpa using hc
    subst hn
    obtain ⟨a, c, hv, _, _, h3, _⟩ := HS1
    cases hv
    have : l = [] := List.eq_nil_of_length_eq_zero (by have := h3 rfl; omega)
    subst this
    exact ⟨OwV.nil _ _ _ _ _, E⟩
  · skip
    refine c_skip ?_
    refine n_then ?_
    refine c_seq ?_
    refine wp_reg (by decide +kernel) ?_
    refine l_to (to_slice0 (t := tEn) (et := 73) (bytes := 32) (by kernel_rfl) ?_)
    rintro b2 w2 zb2 HO2 e2 z2
    have zs_e2 := e2.size
    replace E := E.trans (Ext.keep e2)
    replace HS1 := HS1.ext e2
    have zo_HO2 := fun (b : Nat) h => HO2.own_lt (b := b) h
    refine l_v (v_move (t := .slice _ _ _) rfl) ?_
    refine l_to (to_append (et := 73) (bytes := 32) (by kernel_rfl) (show _ = (Value.slice _ _ _) from rfl) (HO2.mono (F' := F) fun _ _ h => h.elim) (show _ = (Value.slice _ _ _) from rfl) HS1 (deepF fun b _ hb => ⟨hb.1, fun ho => by have := HO2.own_lt ho; omega⟩) (by first | omega | (simp; done) | (simp; omega)) (by simp only [maxLen]; first | omega | (simp; done) | (simp; omega)) (by omega) ?_)
    rintro a3 n3 c3 w3 HO3 hn3 k3 h3 i3
    have zs_k3 := k3.size
    replace E := E.step k3 (by intro i hi he; have he0 := he; (try dsimp only [NoK] at hi he ⊢); (try simp only [Value.ownBlock, Option.some.injEq] at he); first | exact he.elim | omega | exact he | (have := ((HO2.mono (F' := F) fun _ _ h => h.elim)).own_lt he0; omega) | (have := zo_HO2 _ he0; omega) | (have := ((HO2.mono (F' := F) fun _ _ h => h.elim)).own_lt he0; rcases hi with hi | hi <;> omega))
    replace HS1 := HS1.keep k3 (by intro i _ hi he; have he0 := he; (try dsimp only [NoK, AllB] at hi he); (try simp only [Value.ownBlock, Option.some.injEq] at he); first | exact hi.elim | exact he.elim | omega | (rcases hi with hi | hi <;> omega) | (rcases he with he | he <;> omega) | (have := ((HO2.mono (F' := F) fun _ _ h => h.elim)).own_lt he0; omega) | (have := zo_HO2 _ he0; omega) | (have := ((HO2.mono (F' := F) fun _ _ h => h.elim)).own_lt he0; rcases hi with hi | hi <;> omega))
    have zo_HO3 := fun (b : Nat) h => HO3.own_lt (b := b) h
    refine l_v (v_assign (t := .slice _ _ _) rfl) ?_
    refine l_nil ?_
    refine n_then ?_
    refine c_ret ?_
    refine ret1v rfl (by decide) (show _ = (Value.slice _ _ _) from rfl) ?_
    exact ⟨HO3.base (by omega), E⟩
theorem clone_c {w : World} {F : Nat → Prop} {v : Value} {m : Ms} (HG1 : AgV tMs w F v m) (hm : mayN m = true) : CallsR Try.prog 60 #[v] w (fun o w' => AgV tMs w' (fun b => w.heap.size ≤ b) o m ∧ Ext w w') := by
  obtain ⟨a1, c1, a2, c2, rfl, HSe, HSs, hw⟩ := HG1.ms
  obtain ⟨hl1, hl2, hl3⟩ := mayN_lens hm
  refine enter 32 Try.func60 rfl rfl (by simp) ?_
  refine c_seq ?_
  have E := Keep.refl (K := NoK) w
  replace HSe := HSe.all
  replace HSs := HSs.all
  refine wp_reg (by decide +kernel) ?_
  refine l_to (to_box (show _ = (Value.agg _) from rfl) ?_)
  rintro b1 w1 zb1 HB1 e1 z1
  have zs_e1 := e1.size
  replace E := E.trans (Ext.keep e1)
  replace HSe := HSe.ext e1
  replace HSs := HSs.ext e1
  try simp only [Value.cells] at HB1
  refine l_to (to_alloc (z := (.agg #[.int .i64 0, .int .i64 0, .int .i64 0, .int .i64 0, .int .i64 0, .int .i64 0, .int .i64 0, .int .i64 0, .slice none 0 0, .bool false, .slice none 0 0])) (by unfold kZero; kernel_rfl) ?_)
  rintro b2 w2 zb2 HB2 e2 z2
  have zs_e2 := e2.size
  replace E := E.trans (Ext.keep e2)
  replace HSe := HSe.ext e2
  replace HSs := HSs.ext e2
  replace HB1 := HB1.ext e2
  try simp only [Value.cells] at HB2
  refine l_nil ?_
  refine n_then ?_
  refine c_seq ?_
  refine wp_reg (by decide +kernel) ?_
  refine l_v (v_fieldAddr (off := 10) (ft := 24) (by kernel_rfl) rfl) ?_
  refine l_v (v_load (by kernel_rfl) rfl (by first | exact HB2.pv 10 _ rfl | exact HB1.pv 10 _ rfl | assumption)) ?_
  refine l_to (to_f1 (by kernel_rfl) (show _ = (Value.slice _ _ _) from rfl) (CallsR.mono (Clone_c HSs (by omega)) ?_))
  rintro _ w5 ⟨HO5, e5⟩
  have zs_e5 := e5.size
  obtain ⟨a5, c5, rfl⟩ := HO5.shape
  replace E := E.trans (Ext.keep e5)
  replace HSe := HSe.ext e5
  replace HSs := HSs.ext e5
  replace HB1 := HB1.ext e5
  replace HB2 := HB2.ext e5
  have zo_HO5 := fun (b : Nat) h => HO5.own_lt (b := b) h
  obtain ⟨n5, hn5⟩ : ∃ n, n = w5.heap.size := ⟨_, rfl⟩
  refine l_v (v_fieldAddr (off := 10) (ft := 24) (by kernel_rfl) rfl) ?_
  refine l_to (to_store rfl rfl (show _ = (Value.slice _ _ _) from rfl) rfl (by kernel_rfl) HB1 (by first | exact of_decide_eq_true rfl | (simp; done) | decide) ?_)
  rintro w101 HX101 k101 z101
  have zs_k101 := k101.size
  replace E := E.step k101 (by intro i hi he; (try dsimp only [NoK] at hi he ⊢); first | exact he.elim | omega | exact he)
  replace HSe := HSe.keep k101 (by intro i _ hi he; (try dsimp only [NoK, AllB] at hi he); first | exact hi.elim | exact he.elim | omega | (rcases hi with hi | hi <;> omega) | (rcases he with he | he <;> omega))
  replace HB2 := HB2.keep k101 (by intro h; (try dsimp only at h); first | omega)
  replace HO5 := HO5.keep k101 (by intro i ho he; have he0 := he; have ho0 := ho; (try dsimp only [NoK] at he); (try simp only [Value.ownBlock, Option.some.injEq, reduceCtorEq] at ho); (try simp only [Value.ownBlock, Option.some.injEq, reduceCtorEq] at he); first | exact he.elim | exact ho.elim | omega | (have := zo_HO5 _ ho0; omega)) (by intro i _ hi _ he; have he0 := he; have hi := hi; have he := he; (try dsimp only [NoK, AllB] at hi he); (try simp only [Value.ownBlock, Option.some.injEq, reduceCtorEq] at he); all_goals first | exact hi.elim | exact hi.1.elim | exact he.elim | omega | (rcases hi with hi | hi <;> omega) | (rcases he with he | he <;> omega))
  replace HB1 := HX101
  clear HX101
  try simp only [List.set_cons_zero, List.set_cons_succ, setAt, List.take_zero, List.take_succ_cons, List.drop_zero, List.drop_succ_cons, List.nil_append, List.cons_append, List.append_nil, List.length_cons, List.length_nil, Nat.zero_add, Nat.reduceAdd, List.drop_nil] at HB1
  refine l_nil ?_
  refine n_then ?_
  refine c_seq ?_
  refine wp_reg (by decide +kernel) ?_
  refine l_v (v_fieldAddr (off := 8) (ft := 23) (by kernel_rfl) rfl) ?_
  refine l_v (v_load (by kernel_rfl) rfl (by first | exact HB2.pv 8 _ rfl | exact HB1.pv 8 _ rfl | assumption)) ?_
  refine l_to (to_f1 (by kernel_rfl) (show _ = (Value.slice _ _ _) from rfl) (CallsR.mono (CloneE_c HSe (by omega)) ?_))
  rintro _ w6 ⟨HO6, e6⟩
  have zs_e6 := e6.size
  replace HO6 := (HO6.base (B' := n5) (by omega)).mono (F' := fun b => b ≠ b1 ∧ b ≠ b2) (fun b _ hb => by omega)
  replace HO6 := HO6.mark (n0 := w.heap.size)
  obtain ⟨a6, c6, rfl⟩ := HO6.shape
  simp only [mkM_len] at HO6 ⊢
  replace E := E.trans (Ext.keep e6)
  replace HSe := HSe.ext e6
  replace HB1 := HB1.ext e6
  replace HB2 := HB2.ext e6
  replace HO5 := HO5.ext e6
  have zo_HO6 := fun (b : Nat) h => HO6.own_lt (b := b) h
  refine l_v (v_fieldAddr (off := 8) (ft := 23) (by kernel_rfl) rfl) ?_
  refine l_to (to_store rfl rfl (show _ = (Value.slice _ _ _) from rfl) rfl (by kernel_rfl) HB1 (by first | exact of_decide_eq_true rfl | (simp; done) | decide) ?_)
  rintro w102 HX102 k102 z102
  have zs_k102 := k102.size
  replace E := E.step k102 (by intro i hi he; (try dsimp only [NoK] at hi he ⊢); first | exact he.elim | omega | exact he)
  replace HB2 := HB2.keep k102 (by intro h; (try dsimp only at h); first | omega)
  replace HO5 := HO5.keep k102 (by intro i ho he; have he0 := he; have ho0 := ho; (try dsimp only [NoK] at he); (try simp only [Value.ownBlock, Option.some.injEq, reduceCtorEq] at ho); (try simp only [Value.ownBlock, Option.some.injEq, reduceCtorEq] at he); first | exact he.elim | exact ho.elim | omega | (have := zo_HO5 _ ho0; omega)) (by intro i _ hi _ he; have he0 := he; have hi := hi; have he := he; (try dsimp only [NoK, AllB] at hi he); (try simp only [Value.ownBlock, Option.some.injEq, reduceCtorEq] at he); all_goals first | exact hi.elim | exact hi.1.elim | exact he.elim | omega | (rcases hi with hi | hi <;> omega) | (rcases he with he | he <;> omega))
  replace HO6 := HO6.keep k102 (by intro i ho he; have he0 := he; have ho0 := ho; (try dsimp only [NoK] at he); (try simp only [Value.ownBlock, Option.some.injEq, reduceCtorEq] at ho); (try simp only [Value.ownBlock, Option.some.injEq, reduceCtorEq] at he); first | exact he.elim | exact ho.elim | omega | (have := zo_HO6 _ ho0; omega)) (by intro i _ hi _ he; have he0 := he; have hi := hi; have he := he; (try dsimp only [NoK, AllB] at hi he); (try simp only [Value.ownBlock, Option.some.injEq, reduceCtorEq] at he); all_goals first | exact hi.elim | exact hi.1.elim | exact he.elim | omega | (rcases hi with hi | hi <;> omega) | (rcases he with he | he <;> omega))
  replace HB1 := HX102
  clear HX102
  try simp only [List.set_cons_zero, List.set_cons_succ, setAt, List.take_zero, List.take_succ_cons, List.drop_zero, List.drop_succ_cons, List.nil_append, List.cons_append, List.append_nil, List.length_cons, List.length_nil, Nat.zero_add, Nat.reduceAdd, List.drop_nil] at HB1
  refine l_nil ?_
  refine n_then ?_
  refine c_seq ?_
  refine c_seq ?_
  refine wp_reg (by decide +kernel) ?_
  refine l_v (v_fieldAddr (off := 8) (ft := 23) (by kernel_rfl) rfl) ?_
  refine l_v (v_load (by kernel_rfl) rfl (by first | exact HB2.pv 8 _ rfl | exact HB1.pv 8 _ rfl | assumption)) ?_
  refine l_v (v_len (et := 73) (by kernel_rfl) rfl) ?_
  refine l_v (v_move rfl) ?_
  refine l_nil ?_
  refine n_then ?_
  refine c_block ?_
  refine c_loop (τ := Nat) [3, 15, 16, 17, 18, 19, 20, 21, 22, 23, 24, 25, 26, 27, 28, 29, 30] (fun i => [(15, .int .i64 i)]) (fun i W => Ext w W ∧ Keep (fun b => n5 ≤ b) w102 W ∧ i ≤ m.ents.length ∧ OwV (tEnM w.heap.size) 73 W n5 (fun b => b ≠ b1 ∧ b ≠ b2) (.slice a6 m.ents.length c6) (mkM i m.ents)) (fun i => m.ents.length - i) 0 (by exact ⟨rfl, trivial⟩) (by exact ⟨E, Keep.refl _, Nat.zero_le _, HO6⟩) ?_
  rintro i w103 j ⟨E, EL1, h1, HOx⟩
  have zs_EL1 := EL1.size
  replace HB1 := HB1.keep EL1 (by intro h; (try dsimp only at h); first | omega)
  replace HB2 := HB2.keep EL1 (by intro h; (try dsimp only at h); first | omega)
  replace HO5 := HO5.keep EL1 (by intro i ho he; have he0 := he; have ho0 := ho; (try dsimp only [NoK] at he); (try simp only [Value.ownBlock, Option.some.injEq, reduceCtorEq] at ho); (try simp only [Value.ownBlock, Option.some.injEq, reduceCtorEq] at he); first | exact he.elim | exact ho.elim | omega | (have := zo_HO5 _ ho0; omega)) (by intro i _ hi _ he; have he0 := he; have hi := hi; have he := he; (try dsimp only [NoK, AllB] at hi he); (try simp only [Value.ownBlock, Option.some.injEq, reduceCtorEq] at he); all_goals first | exact hi.elim | exact hi.1.elim | exact he.elim | omega | (rcases hi with hi | hi <;> omega) | (rcases he with he | he <;> omega))
  have zo_HOx := fun (b : Nat) h => HOx.own_lt (b := b) h
  refine c_seq ?_
  refine wp_reg (by decide +kernel) ?_
  refine l_v (v_lss rfl rfl) ?_
  refine l_nil ?_
  refine n_then ?_
  refine c_seq ?_
  refine c_cond rfl rfl (fun hlt => ?_) (fun hlt => ?_)
  · skip
    have hlt := dtrue hlt
    obtain ⟨r, hx, hdr⟩ := getE (l := m.ents) (i := i) (by omega)
    have hx' : (mkM i m.ents)[i]? = some (r, false) := by rw [mkM_get, hx]; simp
    obtain ⟨b6, hb6, hb61, hb62⟩ := HOx.addr (by intro h0; rw [h0] at hx'; cases hx')
    subst hb6
    obtain ⟨q, cs, hq, hF, _, HPq, hr⟩ := (SlV.el (n := m.ents.length) (c := c6) (by simpa only [mkM_len] using HOx.view) hx')
    cases hq
    have hr : tEn.rep _ _ cs r := hr
    obtain ⟨a7, c7, rfl, HS7, hr1⟩ := tEn_cells hr
    have hl7 := (hl3 r (List.mem_of_getElem? hx)).1
    refine c_skip ?_
    refine n_then ?_
    refine c_seq ?_
    refine c_block ?_
    refine c_seq ?_
    refine wp_reg (by decide +kernel) ?_
    refine l_v (v_move (t := .int _ _) rfl) ?_
    refine l_v (v_assign (t := .int _ _) rfl) ?_
    refine l_nil ?_
    refine n_then ?_
    refine wp_any (by kernel_rfl) ?_
    have e104 : Ext w103 { w103 with drawn := w103.drawn + 1 } := Keep.drawn _ _
    generalize hw104 : ({ w103 with drawn := w103.drawn + 1 } : World) = w104 at e104 ⊢
    clear hw104
    have zs_e104 := e104.size
    replace E := E.trans (Ext.keep e104)
    replace HB1 := HB1.ext e104
    replace HB2 := HB2.ext e104
    replace HO5 := HO5.ext e104
    replace HOx := HOx.ext e104
    replace EL1 := EL1.trans (Ext.keep e104)
    replace HPq := HPq.ext e104
    replace HS7 := HS7.ext e104
    refine r_cut 10 rfl (by decide +kernel) (by decide +kernel) (by decide +kernel) ?_
    refine wp_regdW (NoK) (by decide +kernel) (by decide +kernel) ?_
    refine rt_v (fun vals w hR hd => v_fieldAddr (off := 8) (ft := 23) (by kernel_rfl) rfl) ?_
    refine rt_v (fun vals w hR hd => v_load (by kernel_rfl) (hd 0 rfl) (by first | exact (HPq.ext hR) 8 _ rfl | exact (HB2.ext hR).pv 8 _ rfl | exact (HB1.ext hR).pv 8 _ rfl | assumption)) ?_
    refine rt_v (fun vals w hR hd => v_move (t := .int _ _) rfl) ?_
    refine rt_v (fun vals w hR hd => v_fieldAddr (off := 8) (ft := 23) (by kernel_rfl) rfl) ?_
    refine rt_v (fun vals w hR hd => v_load (by kernel_rfl) (hd 3 rfl) (by first | exact (HPq.ext hR) 8 _ rfl | exact (HB2.ext hR).pv 8 _ rfl | exact (HB1.ext hR).pv 8 _ rfl | assumption)) ?_
    refine rt_v (fun vals w hR hd => v_move (t := .int _ _) rfl) ?_
    refine rt_v (fun vals w hR hd => v_indexAddr (et := 73) (sz := 2) (k := i) (by kernel_rfl) (by kernel_rfl) (hd 4 rfl) (hd 5 rfl) (by first | rfl | omega) (by omega)) ?_
    refine rt_v (fun vals w hR hd => v_fieldAddr (off := 1) (ft := 24) (by kernel_rfl) (hd 6 rfl)) ?_
    refine rt_v (fun vals w hR hd => v_load (by kernel_rfl) (hd 7 rfl) (by first | exact (HPq.ext hR) 1 _ rfl | exact (HB2.ext hR).pv 1 _ rfl | exact (HB1.ext hR).pv 1 _ rfl | assumption)) ?_
    refine rt_to (fun v W => Bv W (fun b => w.heap.size ≤ b ∧ b ≠ b1 ∧ b ≠ b2 ∧ b ≠ b6) v r.2) (fun v w w' h k => h.ext k) (fun vals w hR hd => to_f1 (by kernel_rfl) (hd 8 rfl) (CallsR.mono (Clone_c (HS7.ext hR) (by omega)) fun v w1 ⟨h, e⟩ => ⟨e, h.view.mono fun b _ hb => by have := hR.size; exact hb.elim (fun h => by omega) (fun h => h.elim)⟩)) ?_
    refine rt_nil (fun w105 e105 => ?_)
    rintro _ rfl _ rfl _ rfl _ rfl _ rfl _ rfl _ rfl _ rfl _ rfl v27 HS27
    have zs_e105 := e105.size
    have HS27 : Bv _ (fun b => w.heap.size ≤ b ∧ b ≠ b1 ∧ b ≠ b2 ∧ b ≠ b6) v27 r.2 := HS27
    obtain ⟨a27, c27, rfl⟩ := HS27.shape
    replace E := E.trans (Ext.keep e105)
    replace HB1 := HB1.ext e105
    replace HB2 := HB2.ext e105
    replace HO5 := HO5.ext e105
    replace HOx := HOx.ext e105
    replace EL1 := EL1.trans (Ext.keep e105)
    refine fin_nil ?_
    refine n_then ?_
    refine r_cut 2 rfl (by decide +kernel) (by decide +kernel) (by decide +kernel) ?_
    refine wp_regdW (NoK) (by decide +kernel) (by decide +kernel) ?_
    refine rt_v (fun vals w hR hd => v_indexAddr (et := 73) (sz := 2) (k := i) (by kernel_rfl) (by kernel_rfl) rfl rfl (by first | rfl | omega) (by omega)) ?_
    refine rt_v (fun vals w hR hd => v_fieldAddr (off := 1) (ft := 24) (by kernel_rfl) (hd 0 rfl)) ?_
    refine rt_nil (fun w106 e106 => ?_)
    rintro _ rfl _ rfl
    have zs_e106 := e106.size
    replace E := E.trans (Ext.keep e106)
    replace HB1 := HB1.ext e106
    replace HB2 := HB2.ext e106
    replace HO5 := HO5.ext e106
    replace HOx := HOx.ext e106
    replace EL1 := EL1.trans (Ext.keep e106)
    replace HS27 := HS27.ext e106
    refine fin_nil ?_
    refine n_then ?_
    refine r_one (by decide +kernel) rfl ?_
    refine l_to (to_storeO (k := i) (off := 1) rfl (by rw [show (tEnM w.heap.size).sz = 2 from rfl]; simp [add_lit]) (by first | decide | exact (of_decide_eq_true rfl : 1 < 2)) (show _ = (Value.slice _ _ _) from rfl) rfl (by kernel_rfl) HOx (x1 := (r, true)) hx' (fun cs h => tEnM_set HS27 (fun b _ hb => by have := hb; refine ⟨⟨⟨?_, ?_⟩, ?_⟩, ?_⟩ <;> omega) h) ?_)
    rintro w11 HO11 k11 z11
    have zs_k11 := k11.size
    replace E := E.step k11 (by intro i hi he; (try dsimp only [NoK] at hi he ⊢); first | exact he.elim | omega | exact he)
    replace HB1 := HB1.keep k11 (by intro h; (try dsimp only at h); first | omega)
    replace HB2 := HB2.keep k11 (by intro h; (try dsimp only at h); first | omega)
    replace HO5 := HO5.keep k11 (by intro i ho he; have he0 := he; have ho0 := ho; (try dsimp only [NoK] at he); (try simp only [Value.ownBlock, Option.some.injEq, reduceCtorEq] at ho); (try simp only [Value.ownBlock, Option.some.injEq, reduceCtorEq] at he); first | exact he.elim | exact ho.elim | omega | (have := zo_HO5 _ ho0; omega)) (by intro i _ hi _ he; have he0 := he; have hi := hi; have he := he; (try dsimp only [NoK, AllB] at hi he); (try simp only [Value.ownBlock, Option.some.injEq, reduceCtorEq] at he); all_goals first | exact hi.elim | exact hi.1.elim | exact he.elim | omega | (rcases hi with hi | hi <;> omega) | (rcases he with he | he <;> omega))
    replace EL1 := EL1.step k11 (by intro i hi he; (try dsimp only [NoK] at hi he ⊢); first | exact he.elim | omega | exact he)
    replace HS27 := HS27.keep k11 (by intro i _ hi he; (try dsimp only [NoK, AllB] at hi he); first | exact hi.elim | exact he.elim | omega | (rcases hi with hi | hi <;> omega) | (rcases he with he | he <;> omega))
    have zo_HO11 := fun (b : Nat) h => HO11.own_lt (b := b) h
    refine l_nil ?_
    refine n_blk ?_
    refine n_then ?_
    refine wp_reg (by decide +kernel) ?_
    refine l_v (v_add rfl rfl (by first | exact wr_i64 (by omega) (by omega) | rfl)) ?_
    refine l_v (v_move (t := .int _ _) rfl) ?_
    refine l_nil ?_
    refine n_then ?_
    refine ⟨i + 1, _, rfl, by (repeat (first | exact Off.of_over _ _ _ | refine Off.upd ?_ (by decide) _ | refine Off.overs ?_ (by decide) _)), ⟨by first | rfl | exact congrArg (Value.int _) (by omega) | (simp; done), trivial⟩, ⟨E, EL1, ?_⟩, ?_⟩
    · skip
      refine ⟨by omega, ?_⟩
      rw [mkM_set hx] at HO11
      exact HO11
    · (dsimp only; omega)
  · skip
    refine c_exit ?_
    refine x_then ?_
    refine x_then ?_
    refine x_hit ?_
    refine n_then ?_
    refine c_seq ?_
    refine wp_reg (by decide +kernel) ?_
    refine l_v (v_loadA (by kernel_rfl) rfl (by first | exact HB2.pv | exact HB1.pv | assumption) rfl) ?_
    refine l_to (to_storeA (n := 11) rfl rfl (show _ = (Value.agg _) from rfl) (by kernel_rfl) rfl (by first | (simp [slice_one]; done) | (simp only [List.forall_mem_cons, List.cons_append, List.nil_append]; repeat' (first | exact rfl | apply And.intro | (intro u hu; cases hu; done)))) HB2 (by first | exact of_decide_eq_true rfl | (simp; done) | decide) ?_)
    rintro w107 HX107 k107 z107
    have zs_k107 := k107.size
    replace E := E.step k107 (by intro i hi he; (try dsimp only [NoK] at hi he ⊢); first | exact he.elim | omega | exact he)
    replace HB1 := HB1.keep k107 (by intro h; (try dsimp only at h); first | omega)
    replace HO5 := HO5.keep k107 (by intro i ho he; have he0 := he; have ho0 := ho; (try dsimp only [NoK] at he); (try simp only [Value.ownBlock, Option.some.injEq, reduceCtorEq] at ho); (try simp only [Value.ownBlock, Option.some.injEq, reduceCtorEq] at he); first | exact he.elim | exact ho.elim | omega | (have := zo_HO5 _ ho0; omega)) (by intro i _ hi _ he; have he0 := he; have hi := hi; have he := he; (try dsimp only [NoK, AllB] at hi he); (try simp only [Value.ownBlock, Option.some.injEq, reduceCtorEq] at he); all_goals first | exact hi.elim | exact hi.1.elim | exact he.elim | omega | (rcases hi with hi | hi <;> omega) | (rcases he with he | he <;> omega))
    replace HOx := HOx.keep k107 (by intro i ho he; have he0 := he; have ho0 := ho; (try dsimp only [NoK] at he); (try simp only [Value.ownBlock, Option.some.injEq, reduceCtorEq] at ho); (try simp only [Value.ownBlock, Option.some.injEq, reduceCtorEq] at he); first | exact he.elim | exact ho.elim | omega | (have := zo_HOx _ ho0; omega)) (by intro i _ hi _ he; have he0 := he; have hi := hi; have he := he; (try dsimp only [NoK, AllB] at hi he); (try simp only [Value.ownBlock, Option.some.injEq, reduceCtorEq] at he); all_goals first | exact hi.elim | exact hi.1.elim | exact he.elim | omega | (rcases hi with hi | hi <;> omega) | (rcases he with he | he <;> omega))
    replace HB2 := HX107
    clear HX107
    try simp only [List.set_cons_zero, List.set_cons_succ, setAt, List.take_zero, List.take_succ_cons, List.drop_zero, List.drop_succ_cons, List.nil_append, List.cons_append, List.append_nil, List.length_cons, List.length_nil, Nat.zero_add, Nat.reduceAdd, List.drop_nil] at HB2
    refine l_nil ?_
    refine n_then ?_
    refine c_ret ?_
    refine ret1c (n := 11) rfl (by decide) rfl (by kernel_rfl) HB2.pv rfl ?_
    have h := dfalse hlt
    obtain rfl : i = m.ents.length := by omega
    exact ⟨AgV.mkMs (HOx.unmark (by omega)) (HO5.view.mono fun b _ hb => hb.elim (fun h => by omega) (fun h => h.elim)) hw, E⟩
end Go.Proofs.Ytaidpdjlchnonaa

namespace Go.Proofs.Ytaidpdjlchnonaa
open Go.Vc
set_option linter.unusedVariables false
set_option linter.unusedSimpArgs false
set_option maxRecDepth 100000

theorem New_c {w : World} : CallsR Try.prog 20 #[] w (fun o w' => ∃ b, b = w.heap.size ∧ o = .pointer (some ⟨b, 0, none⟩) ∧ Blk w' b [.bool true, .slice none 0 0, .int .i64 0] 68 ∧ w'.heap.size = b + 1 ∧ Ext w w') := by
  refine enter 3 Try.func20 rfl rfl (by simp) ?_
  refine c_seq ?_
  have E := Keep.refl (K := NoK) w
  refine wp_reg (by decide +kernel) ?_
  refine l_v (v_assign rfl) ?_
  refine l_nil ?_
  refine n_then ?_
  refine c_seq ?_
  refine wp_reg (by decide +kernel) ?_
  refine l_v (v_build (pl := [(0, 1), (1, 1), (2, 1)]) (z := .agg #[.bool false, .slice none 0 0, .int .i64 0]) (zl := [.bool false, .slice none 0 0, .int .i64 0]) (by kernel_rfl) (by unfold kZero; kernel_rfl) rfl rfl (cells := [_, _, _]) rfl) ?_
  refine l_to (to_box (show _ = (Value.agg _) from rfl) ?_)
  rintro b1 w1 zb1 HB1 e1 z1
  have zs_e1 := e1.size
  replace E := E.trans (Ext.keep e1)
  try simp only [Value.cells] at HB1
  refine l_v (v_assign (t := .pointer _) rfl) ?_
  refine l_nil ?_
  refine n_then ?_
  refine c_ret ?_
  refine ret1v rfl (by decide) (show _ = (Value.pointer _) from rfl) ?_
  exact ⟨b1, zb1, rfl, HB1, z1, e1⟩
theorem there_c {w : World} {b : Nat} {t : Bool} {x y : Value} (HB1 : Blk w b [.bool t, x, y] 68) : CallsR Try.prog 57 #[.pointer (some ⟨b, 0, none⟩)] w (fun o w' => o = .bool t ∧ Ext w w') := by
  refine enter 11 Try.func57 rfl rfl (by simp) ?_
  refine c_seq ?_
  have E := Keep.refl (K := NoK) w
  refine wp_reg (by decide +kernel) ?_
  refine l_v (v_assign rfl) ?_
  refine l_nil ?_
  refine n_then ?_
  refine c_seq ?_
  refine wp_reg (by decide +kernel) ?_
  refine l_v (v_move (t := .pointer _) rfl) ?_
  refine l_v (v_pneq (et := 68) (by kernel_rfl) rfl rfl) ?_
  refine l_v (v_move (t := .bool _) rfl) ?_
  refine l_g1 rfl rfl (fun hG => v_move (t := .pointer _) rfl) ?_
  refine l_g1 rfl rfl (fun hG => v_nilCheck (gd hG rfl)) ?_
  refine l_g1 rfl rfl (fun hG => v_fieldAddr (off := 0) (ft := 4) (by kernel_rfl) (gd hG rfl)) ?_
  refine l_g1 rfl rfl (fun hG => v_load (by kernel_rfl) (gd hG rfl) (by first | exact HB1.pv 0 _ rfl | assumption)) ?_
  refine l_v (v_and rfl rfl) ?_
  refine l_v (v_assign (t := .bool _) rfl) ?_
  refine l_nil ?_
  refine n_then ?_
  refine c_ret ?_
  refine ret1v rfl (by decide) (show _ = (Value.bool _) from rfl) ?_
  exact ⟨rfl, E⟩
theorem Lost_c {w : World} {b : Nat} {x : Value} {n : Int} (HB1 : Blk w b [.bool true, x, .int .i64 n] 68) : CallsR Try.prog 26 #[.pointer (some ⟨b, 0, none⟩)] w (fun o w' => o = .int .i64 n ∧ Ext w w') := by
  refine enter 10 Try.func26 rfl rfl (by simp) ?_
  refine c_seq ?_
  have E := Keep.refl (K := NoK) w
  refine wp_reg (by decide +kernel) ?_
  refine l_v (v_assign rfl) ?_
  refine l_nil ?_
  refine n_then ?_
  refine c_seq ?_
  refine c_seq ?_
  refine wp_reg (by decide +kernel) ?_
  refine l_v (v_move (t := .pointer _) rfl) ?_
  refine l_to (to_f1 (by kernel_rfl) (show _ = (Value.pointer _) from rfl) (CallsR.mono (there_c HB1) ?_))
  rintro _ w101 ⟨rfl, e101⟩
  have zs_e101 := e101.size
  replace E := E.trans (Ext.keep e101)
  replace HB1 := HB1.ext e101
  refine l_v (v_not rfl) ?_
  refine l_nil ?_
  refine n_then ?_
  refine c_cond rfl rfl (fun hc => ?_) (fun hc => ?_)
  · skip
    cases hc
  · skip
    refine c_skip ?_
    refine n_then ?_
    refine c_seq ?_
    refine wp_reg (by decide +kernel) ?_
    refine l_v (v_move (t := .pointer _) rfl) ?_
    refine l_v (v_nilCheck rfl) ?_
    refine l_v (v_fieldAddr (off := 2) (ft := 3) (by kernel_rfl) rfl) ?_
    refine l_v (v_load (by kernel_rfl) rfl (by first | exact HB1.pv 2 _ rfl | assumption)) ?_
    refine l_v (v_assign (t := .int _ _) rfl) ?_
    refine l_nil ?_
    refine n_then ?_
    refine c_ret ?_
    refine ret1v rfl (by decide) (show _ = (Value.int _ _) from rfl) ?_
    exact ⟨rfl, E⟩
theorem All_c {w : World} {v : Value} : CallsR Try.prog 63 #[v] w (fun o w' => ∃ b, b = w.heap.size ∧ o = .func (.func 98) #[] #[.pointer (some ⟨b, 0, none⟩)] ∧ Blk w' b v.cells.toList 39 ∧ w'.heap.size = b + 1 ∧ Ext w w') := by
  refine enter 4 Try.func63 rfl rfl (by simp) ?_
  refine c_seq ?_
  have E := Keep.refl (K := NoK) w
  refine wp_reg (by decide +kernel) ?_
  refine l_to (to_box rfl ?_)
  rintro b1 w1 zb1 HB1 e1 z1
  have zs_e1 := e1.size
  replace E := E.trans (Ext.keep e1)
  try simp only [Value.cells] at HB1
  refine l_v (v_assign rfl) ?_
  refine l_nil ?_
  refine n_then ?_
  refine c_seq ?_
  refine wp_reg (by decide +kernel) ?_
  refine l_v (v_makeFunc (by simp [ev]; rfl) (by simp [ev]; rfl)) ?_
  refine l_v (v_assign rfl) ?_
  refine l_nil ?_
  refine n_then ?_
  refine c_ret ?_
  refine ret1v rfl (by decide) rfl ?_
  exact ⟨b1, zb1, rfl, HB1, z1, e1⟩
theorem At_c {w : World} {F : Nat → Prop} {b c : Nat} {a : Option Addr} {ms : List Ms} {y : Value} {n : Int} {m : Ms} (HB1 : Blk w b [.bool true, .slice a ms.length c, y] 68) (HS1 : SlV tMs w F (.slice a ms.length c) ms) (h0 : 0 ≤ n) (hx : ms[n.toNat]? = some m) (hm : mayN m = true) : CallsR Try.prog 61 #[.pointer (some ⟨b, 0, none⟩), .int .i64 n] w (fun o w' => (∃ v, o = .tuple #[v, .int .i64 0] ∧ AgV tMs w' (fun b => w.heap.size ≤ b) v m) ∧ Ext w w') := by
  have hlt := (List.getElem?_eq_some_iff.1 hx).1
  have hmx := HS1.len_max
  have zl1 := HB1.lt
  refine enter 32 Try.func61 rfl rfl (by simp) ?_
  refine c_seq ?_
  have E := Keep.refl (K := NoK) w
  replace HS1 := HS1.all
  refine wp_reg (by decide +kernel) ?_
  refine l_to (to_alloc (z := (.agg #[.int .i64 0, .int .i64 0, .int .i64 0, .int .i64 0, .int .i64 0, .int .i64 0, .int .i64 0, .int .i64 0, .slice none 0 0, .bool false, .slice none 0 0])) (by unfold kZero; kernel_rfl) ?_)
  rintro b2 w2 zb2 HB2 e2 z2
  have zs_e2 := e2.size
  replace E := E.trans (Ext.keep e2)
  replace HB1 := HB1.ext e2
  replace HS1 := HS1.ext e2
  try simp only [Value.cells] at HB2
  refine l_v (v_assign rfl) ?_
  refine l_nil ?_
  refine n_then ?_
  refine c_seq ?_
  refine c_block ?_
  refine c_seq ?_
  refine wp_reg (by decide +kernel) ?_
  refine l_v (v_move (t := .pointer _) rfl) ?_
  refine l_to (to_f1 (by kernel_rfl) (show _ = (Value.pointer _) from rfl) (CallsR.mono (there_c HB1) ?_))
  rintro _ w101 ⟨rfl, e101⟩
  have zs_e101 := e101.size
  replace E := E.trans (Ext.keep e101)
  replace HB1 := HB1.ext e101
  replace HS1 := HS1.ext e101
  replace HB2 := HB2.ext e101
  refine l_v (v_not rfl) ?_
  refine l_v (v_assign (t := .bool _) rfl) ?_
  refine l_nil ?_
  refine n_then ?_
  refine c_cond rfl rfl (fun hc => ?_) (fun hc => ?_)
  · skip
    cases hc
  · skip
    refine c_seq ?_
    refine wp_reg (by decide +kernel) ?_
    refine l_v (v_move (t := .int _ _) rfl) ?_
    refine l_v (v_lss rfl rfl) ?_
    refine l_v (v_move (t := .bool _) rfl) ?_
    refine l_g1 rfl rfl (fun hG => v_move (t := .int _ _) rfl) ?_
    refine l_g1 rfl rfl (fun hG => v_move (t := .pointer _) rfl) ?_
    refine l_g1 rfl rfl (fun hG => v_nilCheck (gd hG rfl)) ?_
    refine l_g1 rfl rfl (fun hG => v_fieldAddr (off := 1) (ft := 41) (by kernel_rfl) (gd hG rfl)) ?_
    refine l_g1 rfl rfl (fun hG => v_load (by kernel_rfl) (gd hG rfl) (by first | exact HB2.pv 1 _ rfl | exact HB1.pv 1 _ rfl | assumption)) ?_
    refine l_g1 rfl rfl (fun hG => v_len (et := 26) (by kernel_rfl) (gd hG rfl)) ?_
    refine l_g1 rfl rfl (fun hG => v_geq (gd hG rfl) (gd hG rfl)) ?_
    refine l_v (v_or rfl rfl) ?_
    refine l_v (v_assign (t := .bool _) rfl) ?_
    refine l_nil ?_
    refine n_then ?_
    refine c_cond rfl rfl (fun hc2 => ?_) (fun hc2 => ?_)
    · skip
      simp only [Bool.or_eq_true, decide_eq_true_eq] at hc2; omega
    · skip
      obtain ⟨q, cs, hq, hF, _, HPq, hr⟩ := HS1.el hx
      subst hq
      have HGq : AgV tMs _ _ _ m := ⟨cs, rfl, hr⟩
      obtain ⟨a7, c7, a8, c8, rfl, _⟩ := tMs_cells hr
      refine c_skip ?_
      refine n_blk ?_
      refine n_then ?_
      refine c_seq ?_
      refine wp_reg (by decide +kernel) ?_
      refine l_v (v_move (t := .pointer _) rfl) ?_
      refine l_v (v_nilCheck rfl) ?_
      refine l_v (v_fieldAddr (off := 1) (ft := 41) (by kernel_rfl) rfl) ?_
      refine l_v (v_load (by kernel_rfl) rfl (by first | exact HPq 1 _ rfl | exact HB2.pv 1 _ rfl | exact HB1.pv 1 _ rfl | assumption)) ?_
      refine l_v (v_move (t := .int _ _) rfl) ?_
      refine l_v (v_indexAddr (et := 26) (sz := 11) (k := n.toNat) (by kernel_rfl) (by kernel_rfl) rfl rfl (by first | rfl | omega) (by omega)) ?_
      refine l_v (v_loadA (by kernel_rfl) rfl (by first | exact HPq | exact HB2.pv | exact HB1.pv | assumption) rfl) ?_
      refine l_to (to_f1 (by kernel_rfl) (show _ = (Value.agg _) from rfl) (CallsR.mono (clone_c HGq hm) ?_))
      rintro _ w9 ⟨HG9, e9⟩
      have zs_e9 := e9.size
      obtain ⟨a9, c9, a10, c10, rfl, _, _, _⟩ := HG9.ms
      replace E := E.trans (Ext.keep e9)
      replace HB1 := HB1.ext e9
      replace HS1 := HS1.ext e9
      replace HB2 := HB2.ext e9
      replace HPq := HPq.ext e9
      replace HGq := HGq.ext e9
      refine l_to (to_storeA (n := 11) rfl rfl (show _ = (Value.agg _) from rfl) (by kernel_rfl) rfl (by first | (simp [slice_one]; done) | (simp only [List.forall_mem_cons, List.cons_append, List.nil_append]; repeat' (first | exact rfl | apply And.intro | (intro u hu; cases hu; done)))) HB2 (by first | exact of_decide_eq_true rfl | (simp; done) | decide) ?_)
      rintro w102 HX102 k102 z102
      have zs_k102 := k102.size
      replace E := E.step k102 (by intro i hi he; (try dsimp only [NoK] at hi he ⊢); first | exact he.elim | omega | exact he)
      replace HB1 := HB1.keep k102 (by intro h; (try dsimp only at h); first | omega)
      replace HS1 := HS1.keep k102 (by intro i _ hi he; (try dsimp only [NoK, AllB] at hi he); first | exact hi.elim | exact he.elim | omega | (rcases hi with hi | hi <;> omega) | (rcases he with he | he <;> omega))
      replace HPq := HPq.keep k102 (by intro h; (try dsimp only at h); (try simp only [add_block] at h); first | omega)
      replace HGq := HGq.keep k102 (by intro i _ hi he; (try dsimp only [NoK, AllB] at hi he); first | exact hi.elim | exact he.elim | omega | (rcases hi with hi | hi <;> omega) | (rcases he with he | he <;> omega))
      replace HG9 := HG9.keep k102 (by intro i _ hi he; (try dsimp only [NoK, AllB] at hi he); first | exact hi.elim | exact he.elim | omega | (rcases hi with hi | hi <;> omega) | (rcases he with he | he <;> omega))
      replace HB2 := HX102
      clear HX102
      try simp only [List.set_cons_zero, List.set_cons_succ, setAt, List.take_zero, List.take_succ_cons, List.drop_zero, List.drop_succ_cons, List.nil_append, List.cons_append, List.append_nil, List.length_cons, List.length_nil, Nat.zero_add, Nat.reduceAdd, List.drop_nil] at HB2
      refine l_v (v_assign rfl) ?_
      refine l_nil ?_
      refine n_then ?_
      refine c_ret ?_
      refine ret2cv (n := 11) rfl (by decide) (by decide) rfl (by kernel_rfl) HB2.pv rfl (show _ = (Value.int _ _) from rfl) ?_
      exact ⟨⟨_, rfl, HG9.mono fun b _ h => by omega⟩, E⟩
theorem At_no {w : World} {b c : Nat} {a : Option Addr} {k : Nat} {y : Value} {n : Int} (HB1 : Blk w b [.bool true, .slice a k c, y] 68) (hn : n < 0 ∨ (k : Int) ≤ n) : CallsR Try.prog 61 #[.pointer (some ⟨b, 0, none⟩), .int .i64 n] w (fun o w' => o = .tuple #[.agg #[.int .i64 0, .int .i64 0, .int .i64 0, .int .i64 0, .int .i64 0, .int .i64 0, .int .i64 0, .int .i64 0, .slice none 0 0, .bool false, .slice none 0 0], .int .i64 2] ∧ Ext w w') := by
  have zl1 := HB1.lt
  refine enter 32 Try.func61 rfl rfl (by simp) ?_
  refine c_seq ?_
  have E := Keep.refl (K := NoK) w
  refine wp_reg (by decide +kernel) ?_
  refine l_to (to_alloc (z := (.agg #[.int .i64 0, .int .i64 0, .int .i64 0, .int .i64 0, .int .i64 0, .int .i64 0, .int .i64 0, .int .i64 0, .slice none 0 0, .bool false, .slice none 0 0])) (by unfold kZero; kernel_rfl) ?_)
  rintro b2 w2 zb2 HB2 e2 z2
  have zs_e2 := e2.size
  replace E := E.trans (Ext.keep e2)
  replace HB1 := HB1.ext e2
  try simp only [Value.cells] at HB2
  refine l_v (v_assign rfl) ?_
  refine l_nil ?_
  refine n_then ?_
  refine c_seq ?_
  refine c_block ?_
  refine c_seq ?_
  refine wp_reg (by decide +kernel) ?_
  refine l_v (v_move (t := .pointer _) rfl) ?_
  refine l_to (to_f1 (by kernel_rfl) (show _ = (Value.pointer _) from rfl) (CallsR.mono (there_c HB1) ?_))
  rintro _ w101 ⟨rfl, e101⟩
  have zs_e101 := e101.size
  replace E := E.trans (Ext.keep e101)
  replace HB1 := HB1.ext e101
  replace HB2 := HB2.ext e101
  refine l_v (v_not rfl) ?_
  refine l_v (v_assign (t := .bool _) rfl) ?_
  refine l_nil ?_
  refine n_then ?_
  refine c_cond rfl rfl (fun hc => ?_) (fun hc => ?_)
  · skip
    cases hc
  · skip
    refine c_seq ?_
    refine wp_reg (by decide +kernel) ?_
    refine l_v (v_move (t := .int _ _) rfl) ?_
    refine l_v (v_lss rfl rfl) ?_
    refine l_v (v_move (t := .bool _) rfl) ?_
    refine l_g1 rfl rfl (fun hG => v_move (t := .int _ _) rfl) ?_
    refine l_g1 rfl rfl (fun hG => v_move (t := .pointer _) rfl) ?_
    refine l_g1 rfl rfl (fun hG => v_nilCheck (gd hG rfl)) ?_
    refine l_g1 rfl rfl (fun hG => v_fieldAddr (off := 1) (ft := 41) (by kernel_rfl) (gd hG rfl)) ?_
    refine l_g1 rfl rfl (fun hG => v_load (by kernel_rfl) (gd hG rfl) (by first | exact HB2.pv 1 _ rfl | exact HB1.pv 1 _ rfl | assumption)) ?_
    refine l_g1 rfl rfl (fun hG => v_len (et := 26) (by kernel_rfl) (gd hG rfl)) ?_
    refine l_g1 rfl rfl (fun hG => v_geq (gd hG rfl) (gd hG rfl)) ?_
    refine l_v (v_or rfl rfl) ?_
    refine l_v (v_assign (t := .bool _) rfl) ?_
    refine l_nil ?_
    refine n_then ?_
    refine c_cond rfl rfl (fun hc2 => ?_) (fun hc2 => ?_)
    · skip
      refine c_seq ?_
      refine wp_reg (by decide +kernel) ?_
      refine l_v (v_build (pl := [(0, 1), (1, 1), (2, 1), (3, 1), (4, 1), (5, 1), (6, 1), (7, 1), (8, 1), (9, 1), (10, 1)]) (z := .agg #[.int .i64 0, .int .i64 0, .int .i64 0, .int .i64 0, .int .i64 0, .int .i64 0, .int .i64 0, .int .i64 0, .slice none 0 0, .bool false, .slice none 0 0]) (zl := [.int .i64 0, .int .i64 0, .int .i64 0, .int .i64 0, .int .i64 0, .int .i64 0, .int .i64 0, .int .i64 0, .slice none 0 0, .bool false, .slice none 0 0]) (by kernel_rfl) (by unfold kZero; kernel_rfl) rfl rfl (cells := [_, _, _, _, _, _, _, _, _, _, _]) rfl) ?_
      refine l_to (to_storeA (n := 11) rfl rfl (show _ = (Value.agg _) from rfl) (by kernel_rfl) rfl (by first | (simp [slice_one]; done) | (simp only [List.forall_mem_cons, List.cons_append, List.nil_append]; repeat' (first | exact rfl | apply And.intro | (intro u hu; cases hu; done)))) HB2 (by first | exact of_decide_eq_true rfl | (simp; done) | decide) ?_)
      rintro w102 HX102 k102 z102
      have zs_k102 := k102.size
      replace E := E.step k102 (by intro i hi he; (try dsimp only [NoK] at hi he ⊢); first | exact he.elim | omega | exact he)
      replace HB1 := HB1.keep k102 (by intro h; (try dsimp only at h); first | omega)
      replace HB2 := HX102
      clear HX102
      try simp only [List.set_cons_zero, List.set_cons_succ, setAt, List.take_zero, List.take_succ_cons, List.drop_zero, List.drop_succ_cons, List.nil_append, List.cons_append, List.append_nil, List.length_cons, List.length_nil, Nat.zero_add, Nat.reduceAdd, List.drop_nil] at HB2
      refine l_v (v_assign rfl) ?_
      refine l_nil ?_
      refine n_then ?_
      refine c_ret ?_
      refine r_blk ?_
      refine r_then ?_
      refine ret2cv (n := 11) rfl (by decide) (by decide) rfl (by kernel_rfl) HB2.pv rfl (show _ = (Value.int _ _) from rfl) ?_
      exact ⟨rfl, E⟩
    · skip
      simp only [Bool.or_eq_false_iff, decide_eq_false_iff_not] at hc2; omega
end Go.Proofs.Ytaidpdjlchnonaa

namespace Go.Proofs.Ytaidpdjlchnonaa
open Go.Vc
set_option linter.unusedVariables false
set_option linter.unusedSimpArgs false
set_option maxRecDepth 100000

def yAll (n : Nat) (ms : List Ms) (pre : List (Nat × List Value)) (x : Nat × List Value) (W : World) : Prop :=
  x.1 = pre.length ∧ n + 2 ≤ W.heap.size ∧ ∃ m, ms[x.1]? = some m ∧ tMs.rep W (fun b => n + 2 ≤ b) x.2 m
theorem All1_seq {w0 : World} {F K : Nat → Prop} {a : Option Addr} {c bw b2 : Nat} {y : Value} {ms : List Ms} (HBw : Blk w0 bw [.bool true, .slice a ms.length c, y] 68) (HSw : SlV tMs w0 F (.slice a ms.length c) ms) (hb2 : Blk w0 b2 [.pointer (some ⟨bw, 0, none⟩)] 39)
    (hF : ∀ i, F i → ¬ K i) (hKw : ¬ K bw) (hK2 : ¬ K b2) (hmay : ∀ m ∈ ms, mayN m = true) : SeqY Try.prog 98 #[.pointer (some ⟨b2, 0, none⟩)] (fun x => [.int .i64 (x.1 : Int), .agg x.2.toArray]) (yAll w0.heap.size ms) K (fun xs => xs.length = ms.length) (fun _ => True) w0 := by
  refine fun l J Jx W hx hz hJ hJx hY h0 => ?_
  have hmx := HSw.len_max
  obtain ⟨css, hcss⟩ := HSw.pick
  refine CallsR.mono (R := fun _ W' => (∃ xs, xs.length = ms.length ∧ J xs W') ∨ ∃ pre, True ∧ Jx pre W') ?_ fun _ _ h => h
  show CallsR _ _ (#[.func (.yield l) #[] #[], .pointer (some ⟨b2, 0, none⟩)]) W _
  refine enter 25 Try.func98 rfl rfl (by simp) ?_
  refine c_seq ?_
  refine c_seq ?_
  refine wp_reg (by decide +kernel) ?_
  refine l_v (v_load (by kernel_rfl) rfl ((hb2.ext hx).cell rfl)) ?_
  refine l_to (to_f1 (by kernel_rfl) (show _ = (Value.pointer _) from rfl) (CallsR.mono (there_c (HBw.ext hx)) ?_))
  rintro _ w1 ⟨rfl, e1⟩
  have zs_e1 := e1.size
  refine l_v (v_not rfl) ?_
  refine l_nil ?_
  refine n_then ?_
  refine c_cond rfl rfl (fun hc => ?_) (fun hc => ?_)
  · skip
    cases hc
  · skip
    have hx1 := hx.trans e1
    refine c_skip ?_
    refine n_then ?_
    refine c_seq ?_
    refine wp_reg (by decide +kernel) ?_
    refine l_v (v_load (by kernel_rfl) rfl ((hb2.ext hx1).cell rfl)) ?_
    refine l_v (v_nilCheck rfl) ?_
    refine l_v (v_fieldAddr (off := 1) (ft := 41) (by kernel_rfl) rfl) ?_
    refine l_v (v_load (by kernel_rfl) rfl ((HBw.ext hx1).pv 1 _ rfl)) ?_
    refine l_v (v_len (et := 26) (by kernel_rfl) rfl) ?_
    refine l_v (v_move rfl) ?_
    refine l_nil ?_
    refine n_then ?_
    refine c_block ?_
    refine c_loop (τ := Nat × List (Nat × List Value)) [3, 4, 13, 14, 15, 16, 17, 18, 19, 20, 21, 22, 23, 24] (fun t => [(13, .int .i64 t.1)]) (fun t w => t.1 ≤ ms.length ∧ Keep K w0 w ∧ w0.heap.size + 2 ≤ w.heap.size ∧ J t.2 w ∧ t.2.length = t.1) (fun t => ms.length - t.1) (0, []) (by exact ⟨rfl, trivial⟩) (by exact ⟨Nat.zero_le _, hx1.keep, by have := e1.size; omega, hJ _ _ _ e1 h0, rfl⟩) ?_
    rintro ⟨i, pre⟩ w2 j ⟨h1, k1, hz1, hj, hn⟩
    refine c_seq ?_
    simp only at h1 hn hj
    refine wp_reg (by decide +kernel) ?_
    refine l_v (v_lss rfl rfl) ?_
    refine l_nil ?_
    refine n_then ?_
    refine c_seq ?_
    refine c_cond rfl rfl (fun hlt => ?_) (fun hlt => ?_)
    · skip
      have hlt : i < ms.length := by have := dtrue hlt; simp only at this; omega
      obtain ⟨r, hx1', hdr⟩ := getE hlt
      obtain ⟨q, rfl, hFq, hql, hp, hr⟩ := hcss i r hx1'
      obtain ⟨a1, c1, a2, c2, hcs, _⟩ := tMs_cells hr
      refine c_skip ?_
      refine n_then ?_
      refine c_seq ?_
      refine c_block ?_
      refine c_seq ?_
      refine wp_reg (by decide +kernel) ?_
      refine l_v (v_move (t := .int _ _) rfl) ?_
      refine l_v (v_indexAddr (et := 26) (sz := 11) (k := i) (by kernel_rfl) (by kernel_rfl) rfl rfl (by first | rfl | omega) (hlt)) ?_
      refine l_v (v_loadA (n := 11) (by kernel_rfl) rfl (hp.keep k1 (by rw [add_block]; exact hF _ hFq)) (tMs.len hr)) ?_
      refine l_to (to_alloc (z := (.agg #[.int .i64 0, .int .i64 0, .int .i64 0, .int .i64 0, .int .i64 0, .int .i64 0, .int .i64 0, .int .i64 0, .slice none 0 0, .bool false, .slice none 0 0])) (by unfold kZero; kernel_rfl) ?_)
      rintro b4 w4 zb4 hb4 e4 z4
      have zs_e4 := e4.size
      refine l_v (v_assign (t := .int _ _) rfl) ?_
      refine l_to (to_storeA (n := 11) rfl rfl (show _ = (Value.agg _) from rfl) (by kernel_rfl) (tMs.len hr) (tMs.one hr) hb4 (by first | exact of_decide_eq_true rfl | (simp; done) | decide) ?_)
      rintro w5 hb5 k5 z5
      have zs_k5 := k5.size
      rw [show (css i).toArray.toList = css i from rfl, setAt_all (by rw [hcs]; rfl)] at hb5
      have e5 : Ext w2 w5 := e4.step k5 (by intro i hi he; dsimp only [NoK] at he ⊢; omega)
      have hr5 := tMs.keep (tMs.keep hr k1 (fun b _ hf => hF _ hf)) e5 (fun _ _ _ h => h)
      have HG5 : AgV tMs w5 F _ r := ⟨_, rfl, hr5⟩
      refine l_nil ?_
      refine n_then ?_
      refine c_seq ?_
      refine wp_reg (by decide +kernel) ?_
      refine l_v (v_move (t := .func _ _ _) rfl) ?_
      refine l_v (v_move (t := .int _ _) rfl) ?_
      refine l_v (v_loadA (n := 11) (by kernel_rfl) rfl ((hb5).pv) (tMs.len hr)) ?_
      refine l_to (to_f1 (by kernel_rfl) (show _ = (Value.agg _) from rfl) (CallsR.mono (clone_c HG5 (hmay r (List.mem_of_getElem? hx1'))) ?_))
      rintro x6 w6 ⟨⟨cs6, rfl, hr6⟩, e6⟩
      have zs_e6 := e6.size
      have e26 := e5.trans e6
      refine l_to (to_yield2 rfl (show _ = (Value.int _ _) from rfl) (show _ = (Value.agg _) from rfl) (YieldAt.mono (hY pre (i, cs6) w6 (hJ _ _ _ e26 hj) ⟨by rw [hn], by have := e26.size; omega, r, hx1', tMs.mono hr6 fun b _ hb => by have := e5.size; omega⟩) ?_))
      rintro en w7 ⟨v, rfl, hv⟩
      refine ⟨v, rfl, ?_⟩
      obtain ⟨bb, rfl, hb1, hb2'⟩ := yb hv
      refine l_v (v_not rfl) ?_
      refine l_nil ?_
      refine n_then ?_
      refine c_cond rfl rfl (fun hc2 => ?_) (fun hc2 => ?_)
      · skip
        refine c_ret ?_
        refine r_blk ?_
        refine r_then ?_
        refine r_then ?_
        refine r_blk ?_
        refine ret0 rfl ?_
        obtain rfl : bb = false := by cases bb <;> simp_all
        exact .inr ⟨_, trivial, hb2' rfl⟩
      · skip
        obtain rfl : bb = true := by cases bb <;> simp_all
        obtain ⟨hj7, k7⟩ := hb1 rfl
        refine c_skip ?_
        refine n_blk ?_
        refine n_then ?_
        refine wp_reg (by decide +kernel) ?_
        refine l_v (v_add rfl rfl (by first | exact wr_i64 (by omega) (by omega) | rfl)) ?_
        refine l_v (v_move (t := .int _ _) rfl) ?_
        refine l_nil ?_
        refine n_then ?_
        refine ⟨(i + 1, pre ++ [(i, cs6)]), _, rfl, by (repeat (first | exact Off.of_over _ _ _ | refine Off.upd ?_ (by decide) _ | refine Off.overs ?_ (by decide) _)), ⟨by first | rfl | exact congrArg (Value.int _) (by omega) | (simp; done), trivial⟩, ?_, ?_⟩
        · exact ⟨by dsimp only; omega, k1.trans ((Ext.keep e26).trans k7), by have := e26.size; have := k7.size; omega, hj7, by simp [hn]⟩
        · dsimp only; omega
    · skip
      refine c_exit ?_
      refine x_then ?_
      refine x_then ?_
      refine x_hit ?_
      refine end0 rfl ?_
      exact .inl ⟨_, by have := dfalse hlt; simp only at this; omega, hj⟩
end Go.Proofs.Ytaidpdjlchnonaa

namespace Go.Proofs.Ytaidpdjlchnonaa
open Go.Vc
set_option linter.unusedVariables false
set_option linter.unusedSimpArgs false
set_option maxRecDepth 100000

theorem Len_c {w : World} {F : Nat → Prop} {a : Option Addr} {c bw : Nat} {y : Value} {ms : List Ms} (HB1 : Blk w bw [.bool true, .slice a ms.length c, y] 68) (HS1 : SlV tMs w F (.slice a ms.length c) ms) (hmay : ∀ m ∈ ms, mayN m = true) : CallsR Try.prog 25 #[.pointer (some ⟨bw, 0, none⟩)] w (fun o w' => o = .int .i64 (ms.length : Nat) ∧ Ext w w') := by
  have zl1 := HB1.lt
  have hmx := HS1.len_max
  refine enterM 11 Try.func25 rfl rfl (by simp) ?_
  refine c_seq ?_
  have E := Keep.refl (K := NoK) w
  replace HS1 := HS1.all
  refine wp_reg (by decide +kernel) ?_
  refine l_v (v_assign rfl) ?_
  refine l_nil ?_
  refine n_then ?_
  refine c_seq ?_
  refine wp_reg (by decide +kernel) ?_
  refine l_to (to_alloc (z := (.int .i64 0)) (by unfold kZero; kernel_rfl) ?_)
  rintro b3 w3 zb3 HB3 e3 z3
  have zs_e3 := e3.size
  replace E := E.trans (Ext.keep e3)
  replace HB1 := HB1.ext e3
  replace HS1 := HS1.ext e3
  try simp only [Value.cells] at HB3
  refine l_to (to_store rfl rfl (show _ = (Value.int _ _) from rfl) rfl (by kernel_rfl) HB3 (by first | exact of_decide_eq_true rfl | (simp; done) | decide) ?_)
  rintro w101 HX101 k101 z101
  have zs_k101 := k101.size
  replace E := E.step k101 (by intro i hi he; (try dsimp only [NoK] at hi he ⊢); first | exact he.elim | omega | exact he)
  replace HB1 := HB1.keep k101 (by intro h; (try dsimp only at h); first | omega)
  replace HS1 := HS1.keep k101 (by intro i _ hi he; (try dsimp only [NoK, AllB] at hi he); first | exact hi.elim | exact he.elim | omega | (rcases hi with hi | hi <;> omega) | (rcases he with he | he <;> omega))
  replace HB3 := HX101
  clear HX101
  try simp only [List.set_cons_zero, List.set_cons_succ, setAt, List.take_zero, List.take_succ_cons, List.drop_zero, List.drop_succ_cons, List.nil_append, List.cons_append, List.append_nil, List.length_cons, List.length_nil, Nat.zero_add, Nat.reduceAdd, List.drop_nil] at HB3
  refine l_nil ?_
  refine n_then ?_
  refine c_seq ?_
  refine c_seq ?_
  refine wp_reg (by decide +kernel) ?_
  refine l_v (v_move (t := .pointer _) rfl) ?_
  refine l_to (to_f1 (by kernel_rfl) (show _ = (Value.pointer _) from rfl) (CallsR.mono (All_c) ?_))
  rintro _ w4 ⟨b4, hb4, rfl, HB4, z4, e4⟩
  have zs_e4 := e4.size
  replace E := E.trans (Ext.keep e4)
  replace HB1 := HB1.ext e4
  replace HS1 := HS1.ext e4
  replace HB3 := HB3.ext e4
  refine l_nil ?_
  refine n_then ?_
  refine c_block ?_
  simp only [Value.cells] at HB4
  refine c_rangeY (N := 11) rfl (show _ = (Value.func _ _ _) from rfl) (by kernel_rfl) (by decide) E (fun x => [.int .i64 (x.1 : Int), .agg x.2.toArray]) (fun _ => rfl) (yAll w4.heap.size ms) (fun xs => xs.length = ms.length) (fun _ => True) (fun i => i = b3) (fun i h => by have h := h; (try dsimp only at h); omega) ((All1_seq (K := fun i => i = b3 ∨ b4 + 1 ≤ i) HB1 HS1 HB4 (fun i h => by omega) (by omega) (by omega) hmay).mono (fun i h => by omega)) (fun pre W => Blk W b3 [.int .i64 (pre.length : Int)] 3 ∧ pre.length ≤ ms.length) (fun c pre W => False) (fun s W W' t h => ⟨h.1.turn t, h.2⟩) (fun c s W W' t h => h) (⟨HB3, Nat.zero_le _⟩) (fun pre x e1 W => Holds [(3, .pointer (some ⟨b3, 0, none⟩))] e1 ∧ pre.length < ms.length) (fun pre x e1 W W' t h => h) ?_ ?_ ?_ ?_
  · skip
    rintro l pre x w102 E EK hY ⟨HB3, hp1⟩
    have zs_EK102 := EK.size
    have zs_E102 := E.size
    replace HB1 := HB1.keep EK (by intro h; (try dsimp only at h); first | omega)
    replace HS1 := HS1.keep EK (by intro i _ hi he; (try dsimp only [NoK, AllB] at hi he); first | exact hi.elim | exact he.elim | omega | (rcases hi with hi | hi <;> omega) | (rcases he with he | he <;> omega))
    obtain ⟨hxn, hzz, r, hxr, hr⟩ := hY
    have hlt := (List.getElem?_eq_some_iff.1 hxr).1
    have EL1 := Keep.refl (K := NoK) w102
    refine c_skip ?_
    refine n_then ?_
    exact ⟨_, rfl, EL1, ⟨HB3, hp1⟩, ⟨rfl, trivial⟩, by omega⟩
  · skip
    rintro l pre x e1 w103 E EK ⟨HB3, hp1⟩ ⟨hh, hlt⟩
    have zs_EK103 := EK.size
    have zs_E103 := E.size
    replace HB1 := HB1.keep EK (by intro h; (try dsimp only at h); first | omega)
    replace HS1 := HS1.keep EK (by intro i _ hi he; (try dsimp only [NoK, AllB] at hi he); first | exact hi.elim | exact he.elim | omega | (rcases hi with hi | hi <;> omega) | (rcases he with he | he <;> omega))
    obtain ⟨jj, rfl⟩ : ∃ j, e1 = updL _ j := ⟨_, hh.upd⟩
    have EL1 := Keep.refl (K := fun i => i = b3) w103
    refine c_block ?_
    refine wp_reg (by decide +kernel) ?_
    refine l_v (v_load (by kernel_rfl) rfl (by first | exact HB3.cell rfl | exact HB1.cell rfl | assumption)) ?_
    refine l_v (v_add rfl rfl (by first | exact wr_i64 (by omega) (by omega) | rfl)) ?_
    refine l_to (to_store rfl rfl (show _ = (Value.int _ _) from rfl) rfl (by kernel_rfl) HB3 (by first | exact of_decide_eq_true rfl | (simp; done) | decide) ?_)
    rintro w104 HX104 k104 z104
    have zs_k104 := k104.size
    replace HB1 := HB1.keep k104 (by intro h; (try dsimp only at h); first | omega)
    replace HS1 := HS1.keep k104 (by intro i _ hi he; (try dsimp only [NoK, AllB] at hi he); first | exact hi.elim | exact he.elim | omega | (rcases hi with hi | hi <;> omega) | (rcases he with he | he <;> omega))
    replace E := E.step k104 (by intro i hi he; (try dsimp only [NoK] at hi he ⊢); first | exact he.elim | omega | exact he)
    replace EL1 := EL1.step k104 (by intro i hi he; (try dsimp only [NoK] at hi he ⊢); first | exact he.elim | omega | exact he)
    replace HB3 := HX104
    clear HX104
    try simp only [List.set_cons_zero, List.set_cons_succ, setAt, List.take_zero, List.take_succ_cons, List.drop_zero, List.drop_succ_cons, List.nil_append, List.cons_append, List.append_nil, List.length_cons, List.length_nil, Nat.zero_add, Nat.reduceAdd, List.drop_nil] at HB3
    refine l_nil ?_
    refine n_blk ?_
    refine ⟨EL1, ?_⟩
    exact ⟨by simpa using HB3, by simp; omega⟩
  · skip
    rintro D xs w105 hD E EK hS ⟨HB3, hp1⟩ HD
    have zs_EK105 := EK.size
    have zs_E105 := E.size
    replace HB1 := HB1.keep EK (by intro h; (try dsimp only at h); first | omega)
    replace HS1 := HS1.keep EK (by intro i _ hi he; (try dsimp only [NoK, AllB] at hi he); first | exact hi.elim | exact he.elim | omega | (rcases hi with hi | hi <;> omega) | (rcases he with he | he <;> omega))
    refine n_blk ?_
    refine n_then ?_
    refine c_seq ?_
    refine wp_reg (by decide +kernel) ?_
    refine l_v (v_load (by kernel_rfl) rfl (by first | exact HB3.cell rfl | exact HB1.cell rfl | assumption)) ?_
    refine l_v (v_assign (t := .int _ _) rfl) ?_
    refine l_nil ?_
    refine n_then ?_
    refine c_ret ?_
    refine retM1v HD rfl (by decide) (show _ = (Value.int _ _) from rfl) ?_
    have E := keep_put E (by omega : w.heap.size ≤ D) (.deferred none)
    exact ⟨by rw [hS], E⟩
  · skip
    rintro D _ pre W hD E EK hpre h HD; exact h.elim
end Go.Proofs.Ytaidpdjlchnonaa

namespace Go.Proofs.Ytaidpdjlchnonaa
open Go.Vc
set_option linter.unusedVariables false
set_option linter.unusedSimpArgs false
set_option maxRecDepth 100000

theorem To_c {w : World} {F : Nat → Prop} {a : Option Addr} {c bw : Nat} {y : Value} {ms : List Ms} {node : Int} (HB1 : Blk w bw [.bool true, .slice a ms.length c, y] 68) (HS1 : SlV tMs w F (.slice a ms.length c) ms) (hmay : ∀ m ∈ ms, mayN m = true) (hlen : ms.length ≤ 1000000) : CallsR Try.prog 31 #[.pointer (some ⟨bw, 0, none⟩), .int .i64 node] w (fun o w' => (∃ a2 c2, o = .slice a2 (toL node ms 0).length c2 ∧ SlV (tInt .i64) w' (fun b => w.heap.size ≤ b) o (toL node ms 0)) ∧ Ext w w') := by
  have zl1 := HB1.lt
  have hmx := HS1.len_max
  refine enterM 21 Try.func31 rfl rfl (by simp) ?_
  refine c_seq ?_
  have E := Keep.refl (K := NoK) w
  replace HS1 := HS1.all
  refine wp_reg (by decide +kernel) ?_
  refine l_to (to_box (show _ = (Value.int _ _) from rfl) ?_)
  rintro b3 w3 zb3 HB3 e3 z3
  have zs_e3 := e3.size
  replace E := E.trans (Ext.keep e3)
  replace HB1 := HB1.ext e3
  replace HS1 := HS1.ext e3
  try simp only [Value.cells] at HB3
  refine l_v (v_assign rfl) ?_
  refine l_nil ?_
  refine n_then ?_
  refine c_seq ?_
  refine wp_reg (by decide +kernel) ?_
  refine l_to (to_alloc (z := (.slice none 0 0)) (by unfold kZero; kernel_rfl) ?_)
  rintro b5 w5 zb5 HB5 e5 z5
  have zs_e5 := e5.size
  replace E := E.trans (Ext.keep e5)
  replace HB1 := HB1.ext e5
  replace HS1 := HS1.ext e5
  replace HB3 := HB3.ext e5
  try simp only [Value.cells] at HB5
  refine l_nil ?_
  refine n_then ?_
  refine c_seq ?_
  refine c_seq ?_
  refine wp_reg (by decide +kernel) ?_
  refine l_v (v_move (t := .pointer _) rfl) ?_
  refine l_to (to_f1 (by kernel_rfl) (show _ = (Value.pointer _) from rfl) (CallsR.mono (All_c) ?_))
  rintro _ w4 ⟨b4, hb4, rfl, HB4, z4, e4⟩
  have zs_e4 := e4.size
  replace E := E.trans (Ext.keep e4)
  replace HB1 := HB1.ext e4
  replace HS1 := HS1.ext e4
  replace HB3 := HB3.ext e4
  replace HB5 := HB5.ext e4
  refine l_nil ?_
  refine n_then ?_
  refine c_block ?_
  simp only [Value.cells] at HB4
  refine c_rangeZ (N := 21) rfl (show _ = (Value.func _ _ _) from rfl) (by kernel_rfl) (by decide) E (fun x => [.int .i64 (x.1 : Int), .agg x.2.toArray]) (fun _ => rfl) (yAll w4.heap.size ms) (fun xs => xs.length = ms.length) (fun _ => True) (fun i => i = b5) (fun i h => by have h := h; (try dsimp only at h); omega) ((All1_seq (K := fun i => i = b5 ∨ b4 + 1 ≤ i) HB1 HS1 HB4 (fun i h => by omega) (by omega) (by omega) hmay).mono (fun i h => by omega)) (fun pre W => pre.length ≤ ms.length ∧ ∃ a2 c2, Blk W b5 [.slice a2 (toL node (ms.take pre.length) 0).length c2] 56 ∧ OwV (tInt .i64) 3 W (w4.heap.size + 2) NoK (.slice a2 (toL node (ms.take pre.length) 0).length c2) (toL node (ms.take pre.length) 0)) (fun c pre W => False) (fun s W W' t h => by obtain ⟨h0, a2, c2, h1, h2⟩ := h; exact ⟨h0, a2, c2, h1.turn t, h2.turn t (fun _ _ h => h.elim)⟩) (fun c s W W' t h => h) (⟨Nat.zero_le _, none, 0, HB5, OwV.nil _ _ _ _ _⟩) (fun pre x e1 W => ∃ b7 r, Holds [(3, .pointer (some ⟨b3, 0, none⟩)), (5, .pointer (some ⟨b5, 0, none⟩)), (6, .int .i64 (x.1 : Int)), (7, .pointer (some ⟨b7, 0, none⟩))] e1 ∧ Blk W b7 x.2 26 ∧ w4.heap.size + 2 ≤ b7 ∧ x.1 = pre.length ∧ ms[x.1]? = some r ∧ tMs.rep W (fun b => w4.heap.size + 2 ≤ b) x.2 r) (fun pre x e1 W W' t h => by obtain ⟨b7, r, h1, h2, h3, h4, h5, h6⟩ := h; exact ⟨b7, r, h1, h2.turn t.turn, h3, h4, h5, tMs.keep h6 t.keep (fun b _ hb hh => by omega)⟩) ?_ ?_ ?_ ?_
  · skip
    rintro l pre x w101 E EK hY ⟨hp1, a2, c2, HB5, HO5⟩
    have zs_EK101 := EK.size
    have zs_E101 := E.size
    replace HB1 := HB1.keep EK (by intro h; (try dsimp only at h); first | omega)
    replace HS1 := HS1.keep EK (by intro i _ hi he; (try dsimp only [NoK, AllB] at hi he); first | exact hi.elim | exact he.elim | omega | (rcases hi with hi | hi <;> omega) | (rcases he with he | he <;> omega))
    replace HB3 := HB3.keep EK (by intro h; (try dsimp only at h); first | omega)
    have zo_HO5 := fun (b : Nat) h => HO5.own_lt (b := b) h
    obtain ⟨hxn, hzz, r, hxr, hr⟩ := hY
    have hlt := (List.getElem?_eq_some_iff.1 hxr).1
    obtain ⟨a7, c7, a8, c8, hcs, _⟩ := tMs_cells hr
    have EL1 := Keep.refl (K := NoK) w101
    refine c_seq ?_
    refine wp_reg (by decide +kernel) ?_
    refine l_v (v_assign (t := .int _ _) rfl) ?_
    refine l_nil ?_
    refine n_then ?_
    refine wp_reg (by decide +kernel) ?_
    refine l_to (to_alloc (z := (.agg #[.int .i64 0, .int .i64 0, .int .i64 0, .int .i64 0, .int .i64 0, .int .i64 0, .int .i64 0, .int .i64 0, .slice none 0 0, .bool false, .slice none 0 0])) (by unfold kZero; kernel_rfl) ?_)
    rintro b7 w21 zb11 HB7 e21 z21
    have zs_e21 := e21.size
    replace HB1 := HB1.ext e21
    replace HS1 := HS1.ext e21
    replace HB3 := HB3.ext e21
    replace E := E.trans (Ext.keep e21)
    replace HB5 := HB5.ext e21
    replace HO5 := HO5.ext e21
    replace EL1 := EL1.trans (Ext.keep e21)
    try simp only [Value.cells] at HB7
    refine l_to (to_storeA (n := 11) rfl rfl (show _ = (Value.agg _) from rfl) (by kernel_rfl) (tMs.len hr) (tMs.one hr) HB7 (by first | exact of_decide_eq_true rfl | (simp; done) | decide) ?_)
    rintro w22 HB24 k22 z22
    have zs_k22 := k22.size
    rw [show x.2.toArray.toList = x.2 from rfl, setAt_all (by rw [hcs]; rfl)] at HB24
    replace HB1 := HB1.keep k22 (by intro h; (try dsimp only at h); first | omega)
    replace HS1 := HS1.keep k22 (by intro i _ hi he; (try dsimp only [NoK, AllB] at hi he); first | exact hi.elim | exact he.elim | omega | (rcases hi with hi | hi <;> omega) | (rcases he with he | he <;> omega))
    replace HB3 := HB3.keep k22 (by intro h; (try dsimp only at h); first | omega)
    replace E := E.step k22 (by intro i hi he; (try dsimp only [NoK] at hi he ⊢); first | exact he.elim | omega | exact he)
    replace HB5 := HB5.keep k22 (by intro h; (try dsimp only at h); first | omega)
    replace HO5 := HO5.keep k22 (by intro i ho he; have he0 := he; have ho0 := ho; (try dsimp only [NoK] at he); (try simp only [Value.ownBlock, Option.some.injEq, reduceCtorEq] at ho); (try simp only [Value.ownBlock, Option.some.injEq, reduceCtorEq] at he); first | exact he.elim | exact ho.elim | omega | (have := zo_HO5 _ ho0; omega)) (by intro i _ hi _ he; have he0 := he; have hi := hi; have he := he; (try dsimp only [NoK, AllB] at hi he); (try simp only [Value.ownBlock, Option.some.injEq, reduceCtorEq] at he); all_goals first | exact hi.elim | exact hi.1.elim | exact he.elim | omega | (rcases hi with hi | hi <;> omega) | (rcases he with he | he <;> omega))
    replace EL1 := EL1.step k22 (by intro i hi he; (try dsimp only [NoK] at hi he ⊢); first | exact he.elim | omega | exact he)
    refine l_nil ?_
    refine n_then ?_
    exact ⟨_, rfl, EL1, ⟨hp1, a2, c2, HB5, HO5⟩, b7, r, ⟨rfl, rfl, rfl, rfl, trivial⟩, HB24, by omega, hxn, hxr, tMs.keep hr EL1 (fun _ _ _ h => h)⟩
  · skip
    rintro l pre x e1 w102 E EK ⟨hp1, a2, c2, HB5, HO5⟩ ⟨b7, r, hh, HB7, hb7, hxn, hxr, hr⟩
    have zs_EK102 := EK.size
    have zs_E102 := E.size
    replace HB1 := HB1.keep EK (by intro h; (try dsimp only at h); first | omega)
    replace HS1 := HS1.keep EK (by intro i _ hi he; (try dsimp only [NoK, AllB] at hi he); first | exact hi.elim | exact he.elim | omega | (rcases hi with hi | hi <;> omega) | (rcases he with he | he <;> omega))
    replace HB3 := HB3.keep EK (by intro h; (try dsimp only at h); first | omega)
    have zo_HO5 := fun (b : Nat) h => HO5.own_lt (b := b) h
    have zl7 := HB7.lt
    obtain ⟨jj, rfl⟩ : ∃ j, e1 = updL _ j := ⟨_, hh.upd⟩
    have hlt := (List.getElem?_eq_some_iff.1 hxr).1
    obtain ⟨a7, c7, a8, c8, hcs, _⟩ := tMs_cells hr
    obtain ⟨xi, xcs⟩ := x
    simp only at hcs hxr hxn HB7 hr
    subst hcs hxn
    have htk : ms.take (pre.length + 1) = ms.take pre.length ++ [r] := by rw [List.take_add_one, hxr]; rfl
    have hsn := toL_snoc node r (ms.take pre.length) 0
    have hl0 := toL_len node (ms.take pre.length) 0
    rw [← htk, List.length_take, Nat.min_eq_left (by omega)] at hsn
    rw [List.length_take, Nat.min_eq_left (by omega)] at hl0
    have EL1 := Keep.refl (K := fun i => i = b5 ∨ w4.heap.size + 2 ≤ i) w102
    refine c_block ?_
    refine c_seq ?_
    refine wp_reg (by decide +kernel) ?_
    refine l_v (v_fieldAddr (off := 2) (ft := 3) (by kernel_rfl) rfl) ?_
    refine l_v (v_load (by kernel_rfl) rfl (by first | exact HB7.pv 2 _ rfl | exact HB7.pv 2 _ rfl | exact HB7.pv 2 _ rfl | exact HB5.pv 2 _ rfl | exact HB3.pv 2 _ rfl | exact HB1.pv 2 _ rfl | assumption)) ?_
    refine l_v (v_load (by kernel_rfl) rfl (by first | exact HB7.cell rfl | exact HB7.cell rfl | exact HB7.cell rfl | exact HB5.cell rfl | exact HB3.cell rfl | exact HB1.cell rfl | assumption)) ?_
    refine l_v (v_eql rfl rfl) ?_
    refine l_nil ?_
    refine n_then ?_
    refine c_cond rfl rfl (fun hq => ?_) (fun hq => ?_)
    · skip
      rw [if_pos (by simpa using hq)] at hsn
      refine wp_reg (by decide +kernel) ?_
      refine l_v (v_load (by kernel_rfl) rfl (by first | exact HB5.cell rfl | exact HB3.cell rfl | exact HB1.cell rfl | assumption)) ?_
      refine l_v (v_move (t := .int _ _) rfl) ?_
      refine l_to (to_slice1 (t := (tInt .i64)) (et := 3) (bytes := 8) (by kernel_rfl) (by decide) (show _ = (Value.int _ _) from rfl) ((show (tInt .i64).rep _ NoK [.int .i64 (pre.length : Int)] (pre.length : Int) from ⟨rfl, wf_of_i64 (by omega)⟩)) ?_)
      rintro b19 w19 zb19 HO19 e19 z19
      have zs_e19 := e19.size
      replace HB1 := HB1.ext e19
      replace HS1 := HS1.ext e19
      replace HB3 := HB3.ext e19
      replace E := E.trans (Ext.keep e19)
      replace HB5 := HB5.ext e19
      replace HO5 := HO5.ext e19
      replace EL1 := EL1.trans (Ext.keep e19)
      have zo_HO19 := fun (b : Nat) h => HO19.own_lt (b := b) h
      refine l_to (to_append (et := 3) (bytes := 8) (by kernel_rfl) (show _ = (Value.slice _ _ _) from rfl) HO5 (show _ = (Value.slice _ _ _) from rfl) HO19.view ((flat_int _).to) (by first | omega | (simp; done) | (simp; omega)) (by simp only [maxLen]; first | omega | (simp; done) | (simp; omega)) (by omega) ?_)
      rintro a20 n20 c20 w20 HO20 hn20 k20 h20 i20
      have zs_k20 := k20.size
      subst hn20
      replace HB1 := HB1.keep k20 (by intro h; have he0 := h; (try dsimp only at h); (try simp only [Value.ownBlock, Option.some.injEq] at h); first | omega | (have := (HO5).own_lt he0; omega) | (have := zo_HO5 _ he0; omega))
      replace HS1 := HS1.keep k20 (by intro i _ hi he; have he0 := he; (try dsimp only [NoK, AllB] at hi he); (try simp only [Value.ownBlock, Option.some.injEq] at he); first | exact hi.elim | exact he.elim | omega | (rcases hi with hi | hi <;> omega) | (rcases he with he | he <;> omega) | (have := (HO5).own_lt he0; omega) | (have := zo_HO5 _ he0; omega) | (have := (HO5).own_lt he0; rcases hi with hi | hi <;> omega))
      replace HB3 := HB3.keep k20 (by intro h; have he0 := h; (try dsimp only at h); (try simp only [Value.ownBlock, Option.some.injEq] at h); first | omega | (have := (HO5).own_lt he0; omega) | (have := zo_HO5 _ he0; omega))
      replace E := E.step k20 (by intro i hi he; have he0 := he; (try dsimp only [NoK] at hi he ⊢); (try simp only [Value.ownBlock, Option.some.injEq] at he); first | exact he.elim | omega | exact he | (have := (HO5).own_lt he0; omega) | (have := zo_HO5 _ he0; omega) | (have := (HO5).own_lt he0; rcases hi with hi | hi <;> omega))
      replace HB5 := HB5.keep k20 (by intro h; have he0 := h; (try dsimp only at h); (try simp only [Value.ownBlock, Option.some.injEq] at h); first | omega | (have := (HO5).own_lt he0; omega) | (have := zo_HO5 _ he0; omega))
      replace EL1 := EL1.step k20 (by intro i hi he; have he0 := he; (try dsimp only [NoK] at hi he ⊢); (try simp only [Value.ownBlock, Option.some.injEq] at he); first | exact he.elim | omega | exact he | (have := (HO5).own_lt he0; omega) | (have := zo_HO5 _ he0; omega) | (have := (HO5).own_lt he0; rcases hi with hi | hi <;> omega))
      replace HO19 := HO19.keep k20 (by intro i ho he; have he0 := he; have ho0 := ho; (try dsimp only [NoK] at he); (try simp only [Value.ownBlock, Option.some.injEq, reduceCtorEq] at ho); (try simp only [Value.ownBlock, Option.some.injEq, reduceCtorEq] at he); first | exact he.elim | exact ho.elim | omega | (have := zo_HO19 _ ho0; omega) | (have := (HO5).own_lt he0; omega) | (have := zo_HO5 _ he0; omega) | (have := zo_HO19 _ ho0; have := (HO5).own_lt he0; omega)) (by intro i _ hi _ he; have he0 := he; have hi := hi; have he := he; (try dsimp only [NoK, AllB] at hi he); (try simp only [Value.ownBlock, Option.some.injEq, reduceCtorEq] at he); all_goals first | exact hi.elim | exact hi.1.elim | exact he.elim | omega | (rcases hi with hi | hi <;> omega) | (rcases he with he | he <;> omega) | (have := (HO5).own_lt he0; omega) | (have := zo_HO5 _ he0; omega) | (have := (HO5).own_lt he0; rcases hi with hi | hi <;> omega))
      have zo_HO20 := fun (b : Nat) h => HO20.own_lt (b := b) h
      refine l_to (to_store rfl rfl (show _ = (Value.slice _ _ _) from rfl) rfl (by kernel_rfl) HB5 (by first | exact of_decide_eq_true rfl | (simp; done) | decide) ?_)
      rintro w103 HX103 k103 z103
      have zs_k103 := k103.size
      replace HB1 := HB1.keep k103 (by intro h; (try dsimp only at h); first | omega)
      replace HS1 := HS1.keep k103 (by intro i _ hi he; (try dsimp only [NoK, AllB] at hi he); first | exact hi.elim | exact he.elim | omega | (rcases hi with hi | hi <;> omega) | (rcases he with he | he <;> omega))
      replace HB3 := HB3.keep k103 (by intro h; (try dsimp only at h); first | omega)
      replace E := E.step k103 (by intro i hi he; (try dsimp only [NoK] at hi he ⊢); first | exact he.elim | omega | exact he)
      replace EL1 := EL1.step k103 (by intro i hi he; (try dsimp only [NoK] at hi he ⊢); first | exact he.elim | omega | exact he)
      replace HO19 := HO19.keep k103 (by intro i ho he; have he0 := he; have ho0 := ho; (try dsimp only [NoK] at he); (try simp only [Value.ownBlock, Option.some.injEq, reduceCtorEq] at ho); (try simp only [Value.ownBlock, Option.some.injEq, reduceCtorEq] at he); first | exact he.elim | exact ho.elim | omega | (have := zo_HO19 _ ho0; omega)) (by intro i _ hi _ he; have he0 := he; have hi := hi; have he := he; (try dsimp only [NoK, AllB] at hi he); (try simp only [Value.ownBlock, Option.some.injEq, reduceCtorEq] at he); all_goals first | exact hi.elim | exact hi.1.elim | exact he.elim | omega | (rcases hi with hi | hi <;> omega) | (rcases he with he | he <;> omega))
      replace HO20 := HO20.keep k103 (by intro i ho he; have he0 := he; have ho0 := ho; (try dsimp only [NoK] at he); (try simp only [Value.ownBlock, Option.some.injEq, reduceCtorEq] at ho); (try simp only [Value.ownBlock, Option.some.injEq, reduceCtorEq] at he); first | exact he.elim | exact ho.elim | omega | (have := zo_HO20 _ ho0; omega)) (by intro i _ hi _ he; have he0 := he; have hi := hi; have he := he; (try dsimp only [NoK, AllB] at hi he); (try simp only [Value.ownBlock, Option.some.injEq, reduceCtorEq] at he); all_goals first | exact hi.elim | exact hi.1.elim | exact he.elim | omega | (rcases hi with hi | hi <;> omega) | (rcases he with he | he <;> omega))
      replace HB5 := HX103
      clear HX103
      try simp only [List.set_cons_zero, List.set_cons_succ, setAt, List.take_zero, List.take_succ_cons, List.drop_zero, List.drop_succ_cons, List.nil_append, List.cons_append, List.append_nil, List.length_cons, List.length_nil, Nat.zero_add, Nat.reduceAdd, List.drop_nil] at HB5
      refine l_nil ?_
      refine n_blk ?_
      refine ⟨EL1, ?_⟩
      exact ⟨by simp; omega, a20, c20, by simpa [hsn] using HB5, by simpa [hsn] using HO20⟩
    · skip
      rw [if_neg (by simpa using hq), List.append_nil] at hsn
      refine c_skip ?_
      refine n_blk ?_
      refine ⟨EL1, ?_⟩
      exact ⟨by simp; omega, a2, c2, by simpa [hsn] using HB5, by simpa [hsn] using HO5⟩
  · skip
    rintro D xs w104 hD E EK hS ⟨hp1, a2, c2, HB5, HO5⟩ HD
    have zs_EK104 := EK.size
    have zs_E104 := E.size
    replace HB1 := HB1.keep EK (by intro h; (try dsimp only at h); first | omega)
    replace HS1 := HS1.keep EK (by intro i _ hi he; (try dsimp only [NoK, AllB] at hi he); first | exact hi.elim | exact he.elim | omega | (rcases hi with hi | hi <;> omega) | (rcases he with he | he <;> omega))
    replace HB3 := HB3.keep EK (by intro h; (try dsimp only at h); first | omega)
    have zo_HO5 := fun (b : Nat) h => HO5.own_lt (b := b) h
    refine n_blk ?_
    refine n_then ?_
    refine c_seq ?_
    refine wp_reg (by decide +kernel) ?_
    refine l_v (v_load (by kernel_rfl) rfl (by first | exact HB5.cell rfl | exact HB3.cell rfl | exact HB1.cell rfl | assumption)) ?_
    refine l_v (v_assign (t := .slice _ _ _) rfl) ?_
    refine l_nil ?_
    refine n_then ?_
    refine c_ret ?_
    refine retM1v HD rfl (by decide) (show _ = (Value.slice _ _ _) from rfl) ?_
    have E := keep_put E (by omega : w.heap.size ≤ D) (.deferred none)
    have h1 : ms.take xs.length = ms := List.take_of_length_le (by omega)
    rw [h1] at HO5 ⊢
    have HO6 := HO5.turn (turn_put HD hD (.deferred none)) (fun _ _ h => h.elim)
    exact ⟨⟨a2, c2, rfl, HO6.view.mono fun b _ hb => hb.elim (fun h => by omega) (fun h => h.elim)⟩, E⟩
  · skip
    rintro D _ pre W hD E EK hpre h HD; exact h.elim
end Go.Proofs.Ytaidpdjlchnonaa
